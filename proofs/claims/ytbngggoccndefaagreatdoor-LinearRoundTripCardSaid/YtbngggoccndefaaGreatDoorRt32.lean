/-
  Laid.
-/
import Derived.Test.YtbngggoccndefaaGreatDoorRt27
import Derived.Test.YtbngggoccndefaaGreatDoorRt30
set_option maxHeartbeats 8000000
set_option maxRecDepth 100000
set_option linter.all false
namespace Go.Proofs.YtbngggoccndefaaGreatDoor
open Go.Proofs.Tryz
section
open Go.RowKit Go.MuLone
theorem eL {k:Nat} (hk:k<10):∃u0 u1:List UInt8,Ea.sS (Ea.setsE0.getD k [])=u0∧Ea.sS (Ea.setsE1.getD k [])=u1∧u0.map swpU=u1∧(∀c∈u0,c=65∨c=66)∧u0.length=6∧(Ea.compB 0)[k]? =some (Ea.bS u0)∧(Ea.compB 1)[k]? =some (Ea.bS u1):=by
 have h:∀k:Fin 10,(Ea.sS (Ea.setsE0.getD k [])).map swpU=Ea.sS (Ea.setsE1.getD k [])∧(∀c∈Ea.sS (Ea.setsE0.getD k []),c=65∨c=66)∧(Ea.sS (Ea.setsE0.getD k [])).length=6:=by decide
 obtain⟨h1,h2,h3⟩:=h ⟨k,hk⟩;refine⟨_,_,rfl,rfl,h1,h2,h3,?_,?_⟩;·unfold Ea.compB;rw[G0 rfl,X2,P0 (show k<Ea.setsE0.length from hk),A1,P0 (show k<Ea.setsE0.length from hk)];rfl
 ·unfold Ea.compB;rw[D0 J0,X2,P0 (show k<Ea.setsE1.length from hk),A1,P0 (show k<Ea.setsE1.length from hk)];rfl
theorem eM (w:World):Calls prog 180 #[.int .u8 49] w fun e w'=>e=.returned (arrV (Ea.compB 1))∧Ext w w':=by
 go_enter func180,ntmps180;go_wp2_with fail;obtain⟨W,hW⟩:∃W,w.alloc (Obj.cells #[Value.string ⟨#[]⟩,Value.string ⟨#[]⟩,Value.string ⟨#[]⟩,Value.string ⟨#[]⟩,Value.string ⟨#[]⟩,Value.string ⟨#[]⟩,Value.string ⟨#[]⟩,Value.string ⟨#[]⟩,Value.string ⟨#[]⟩,Value.string ⟨#[]⟩] 210)=W:=⟨_,rfl⟩;have hWx:Ext w W:=by rw[<-hW];exact(Ext.refl w).alloc _
 have hWs:W.heap.size=w.heap.size+1:=by rw[<-hW];simp
 have hres0:W.rowIs w.heap.size 210 10 (fun _=>.string ⟨#[]⟩):=by rw[<-hW];exact(RI w _ 210 (fun _=>.string ⟨#[]⟩) (fun i hi=>by have hi:i<10:=hi;rcases(by omega:i=0∨i=1∨i=2∨i=3∨i=4∨i=5∨i=6∨i=7∨i=8∨i=9)with h|h|h|h|h|h|h|h|h|h<;>subst h<;>rfl))
 rw[hW];obtain⟨V,hV⟩:∃V,W.alloc (Obj.cells #[Value.string ⟨#[66,66,66,65,65,65]⟩,Value.string ⟨#[66,66,65,66,65,65]⟩,Value.string ⟨#[66,66,65,65,66,65]⟩,Value.string ⟨#[66,66,65,65,65,66]⟩,Value.string ⟨#[66,65,66,66,65,65]⟩,Value.string ⟨#[66,65,65,66,66,65]⟩,Value.string ⟨#[66,65,65,65,66,66]⟩,Value.string ⟨#[66,65,66,65,66,65]⟩,Value.string ⟨#[66,65,66,65,65,66]⟩,Value.string ⟨#[66,65,65,66,65,66]⟩] 210)=V:=⟨_,rfl⟩;have hVx:Ext W V:=by rw[<-hV];exact(Ext.refl W).alloc _
 have hVs:V.heap.size=w.heap.size+1+1:=by rw[<-hV,<-hWs];simp
 have hrow0:V.rowIs (w.heap.size+1) 210 10 (fun i=>.string ((Ea.compB 0).getD i ⟨#[]⟩)):=by rw[<-hV,<-hWs];exact(RI W _ 210 (fun i=>.string ((Ea.compB 0).getD i ⟨#[]⟩)) (fun i hi=>by have hi:i<10:=hi;rcases(by omega:i=0∨i=1∨i=2∨i=3∨i=4∨i=5∨i=6∨i=7∨i=8∨i=9)with h|h|h|h|h|h|h|h|h|h<;>subst h<;>rfl))
 rw[hV];have HIX:Hid (∀k:Nat,k<10->∀w',(Instr.index 210 (.agg #[Value.string ⟨#[66,66,66,65,65,65]⟩,Value.string ⟨#[66,66,65,66,65,65]⟩,Value.string ⟨#[66,66,65,65,66,65]⟩,Value.string ⟨#[66,66,65,65,65,66]⟩,Value.string ⟨#[66,65,66,66,65,65]⟩,Value.string ⟨#[66,65,65,66,66,65]⟩,Value.string ⟨#[66,65,65,65,66,66]⟩,Value.string ⟨#[66,65,66,65,66,65]⟩,Value.string ⟨#[66,65,66,65,65,66]⟩,Value.string ⟨#[66,65,65,66,65,66]⟩]) (.int .i64 (k:Int))).run prog w'=.ok (.string ((Ea.compB 0).getD k ⟨#[]⟩)) w'):=B0 (fun k hk w'=>cF 210 10 M0 _ k hk _ (by rcases(by omega:k=0∨k=1∨k=2∨k=3∨k=4∨k=5∨k=6∨k=7∨k=8∨k=9)with h|h|h|h|h|h|h|h|h|h<;>subst h<;>rfl) w');have hn:=cI V.heap.size (V.alloc (Obj.cells #[Value.string ⟨#[65]⟩,Value.string ⟨#[66]⟩,Value.string ⟨#[66]⟩,Value.string ⟨#[65]⟩] 9)) L0 L0 L0 L0;rw[hVs]at hn;refine hn.mono ?_;rintro e w1 ⟨b,rfl,hb,hF,hx1⟩;have hb:w.heap.size+3<=b:=by simp[hVs]at hb;omega
 have hVx1:Ext V w1:=(Ext.alloc (Ext.refl V) _).trans hx1;have hrow1:=Ext.rowX hrow0 hVx1;have hres1:=Ext.rowX hres0 (hVx.trans hVx1);have hxw1:Ext w w1:=(hWx.trans hVx).trans hVx1;clear hn hx1 hVx1 hrow0 hres0 hWx hVx hW hV hWs hVs;have q0:w1.cell? ⟨w.heap.size+1,0,none⟩=some (.string ⟨#[66,66,66,65,65,65]⟩):=hrow1.cell (i:=0) J0;have q1:w1.cell? ⟨w.heap.size+1,1,none⟩=some (.string ⟨#[66,66,65,66,65,65]⟩):=hrow1.cell (i:=1) J0;have q2:w1.cell? ⟨w.heap.size+1,2,none⟩=some (.string ⟨#[66,66,65,65,66,65]⟩):=hrow1.cell (i:=2) J0;have q3:w1.cell? ⟨w.heap.size+1,3,none⟩=some (.string ⟨#[66,66,65,65,65,66]⟩):=hrow1.cell (i:=3) J0;have q4:w1.cell? ⟨w.heap.size+1,4,none⟩=some (.string ⟨#[66,65,66,66,65,65]⟩):=hrow1.cell (i:=4) J0;have q5:w1.cell? ⟨w.heap.size+1,5,none⟩=some (.string ⟨#[66,65,65,66,66,65]⟩):=hrow1.cell (i:=5) J0;have q6:w1.cell? ⟨w.heap.size+1,6,none⟩=some (.string ⟨#[66,65,65,65,66,66]⟩):=hrow1.cell (i:=6) J0;have q7:w1.cell? ⟨w.heap.size+1,7,none⟩=some (.string ⟨#[66,65,66,65,66,65]⟩):=hrow1.cell (i:=7) J0;have q8:w1.cell? ⟨w.heap.size+1,8,none⟩=some (.string ⟨#[66,65,66,65,65,66]⟩):=hrow1.cell (i:=8) J0;have q9:w1.cell? ⟨w.heap.size+1,9,none⟩=some (.string ⟨#[66,65,65,66,65,66]⟩):=hrow1.cell (i:=9) J0;go_wp2;clear q0 q1 q2 q3 q4 q5 q6 q7 q8 q9;have HNX:=B0 (fun(w':World) (h:Ext w1 w')=>h);go_loopw [13] (fun i wr=>∃k:Nat,k<=10∧i=.int .i64 (k:Int)∧wr.rowIs (w.heap.size+1) 210 10 (fun j=>.string (if j<k then(Ea.compB 1).getD j ⟨#[]⟩else(Ea.compB 0).getD j ⟨#[]⟩))∧wr.rowIs w.heap.size 210 10 (fun _=>.string ⟨#[]⟩)∧Ext w wr∧
  ((k=0∧F9 wr b 0)∨(∃br,w.heap.size+3<=br∧wr.rowIs br 328 256 (fun i=>.int .u8 (swpB i:Int))∧X6 wr b 1 0 (repI br) (.slice none 0 0)))) (fun i _=>10-(intOf i).toNat)
 case atStart=>exact⟨0,by omega,rfl,hrow1.congr (fun i _=>by simp),hres1,hxw1,.inl ⟨rfl,hF⟩⟩
 case round=>
  clear hrow1 hres1 hxw1 hF;obtain⟨k,hk,rfl,hrow,hres,hxr,hst⟩:=hrel;by_cases hlt:k<10
  ·obtain⟨u0,u1,e0,e1,hu,hab,h6,ha,hbb⟩:=eL hlt;have hix:=HIX.out k hlt;have hg0:(Ea.compB 0).getD k ⟨#[]⟩=Ea.bS u0:=(by rw[A1,ha];rfl);have HG1:Hid ((Ea.compB 1).getD k ⟨#[]⟩=Ea.bS u1):=B0 (by rw[A1,hbb];rfl);rw[hg0]at hix;have hsz:(Ea.bS u0).size=6:=(by rw[Zc (Ea.bS_list u0),h6]);have HU:Hid ((Ea.bS u0).data.toList.map swpU=u1):=B0 hu;have HAB:Hid (∀c∈(Ea.bS u0).data.toList,c=65∨c=66):=B0 hab;have HNEW:Hid (∀w',wr.grownBy w' (some b)->w'.rowIs (w.heap.size+1) 210 10 (fun j=>.string (if j<k then(Ea.compB 1).getD j ⟨#[]⟩else(Ea.compB 0).getD j ⟨#[]⟩))∧w'.rowIs w.heap.size 210 10 (fun _=>.string ⟨#[]⟩)∧Ext w w'):=B0 (fun w' hg=>
    ⟨hrow.of_block (hg.block _ hrow.lt I2),hres.of_block (hg.block _ hres.lt I2),hxr.ofGrown hg (fun j hj=>by cases hj;omega)⟩)
   generalize Ea.bS u0=U at*;clear e0 e1 hu hab ha hbb hg0;rcases hst with⟨rfl,hF⟩|⟨br,hbr,hrb,hrep⟩;(·have HR:=B0 (cU b U wr hF HAB.out C0 C0);have hsw:b<wr.heap.size:=(by obtain⟨_,h,_⟩:=hF;exact(F3.1 h).1);have hix:∀w',(Instr.index 210 (.agg #[Value.string ⟨#[66,66,66,65,65,65]⟩,Value.string ⟨#[66,66,65,66,65,65]⟩,Value.string ⟨#[66,66,65,65,66,65]⟩,Value.string ⟨#[66,66,65,65,65,66]⟩,Value.string ⟨#[66,65,66,66,65,65]⟩,Value.string ⟨#[66,65,65,66,66,65]⟩,Value.string ⟨#[66,65,65,65,66,66]⟩,Value.string ⟨#[66,65,66,65,66,65]⟩,Value.string ⟨#[66,65,66,65,65,66]⟩,Value.string ⟨#[66,65,65,66,65,66]⟩]) (.int .i64 0)).run prog w'=.ok (.string U) w':=hix;clear hrow hres hxr hF;go_wp2_with fail;refine HR.out.mono ?_;rintro e w2 ⟨rfl,br,hbr,hrb,hrep,hg⟩;obtain⟨hrow2,hres2,hx2⟩:=HNEW.out w2 hg;rw[HU.out];have hcl:=hrow2.cell hlt;have hfz:=hrow2.frozen 0;have HR5:=B0 ((hrow2.set 0 (.string ⟨u1.toArray⟩)).congr (g:=fun j=>.string (if j<0+1 then(Ea.compB 1).getD j ⟨#[]⟩else(Ea.compB 0).getD j ⟨#[]⟩)) (fun j hj=>by by_cases h1:j=0;(·subst h1;rw[G0 rfl,G0 C0,HG1.out];rfl);·rw[D0 h1,D0 C0,D0 C0]));have g5:=ZC w2 (w.heap.size+1) 0 (.string ⟨u1.toArray⟩);have HS5:=B0 (hres2.of_block (g5.block _ hres2.lt L0));have HX5:=B0 (hx2.setCell (p:=⟨w.heap.size+1,0,none⟩) L0 (.string ⟨u1.toArray⟩));have HB5:=B0 (hrb.of_block (g5.block _ hrb.lt I2));have HP5:Hid (X6 (w2.setCell ⟨w.heap.size+1,0,none⟩ (.string ⟨u1.toArray⟩)) b 1 0 (repI br) (.slice none 0 0)):=B0 ((g5.block b (F3.1 hrep).1 I2).trans hrep);clear hrow2 hres2 hx2 hrb hrep hg g5;go_wp2;go_roundw;(case rel=>exact⟨1,by omega,rfl,HR5.out,HS5.out,HX5.out,.inr ⟨br,by omega,HB5.out,HP5.out⟩⟩);case measure=>simp[intOf]);·have HR:=B0 (cV b br U wr hrb hrep HAB.out C0 C0);have HB0:=B0 hrb;have HP0:=B0 hrep;have HO:=B0 (And.intro hrow (And.intro hres hxr));clear hrow hres hxr hrb hrep;go_wp2_with fail;refine HR.out.mono ?_;rintro e w2 ⟨rfl,hx2⟩;have hrow2:=Ext.rowX HO.out.1 hx2;have hres2:=Ext.rowX HO.out.2.1 hx2;have hxx:=HO.out.2.2.trans hx2;have hrb:=Ext.rowX HB0.out hx2;have hrep:X6 w2 b 1 0 (repI br) (.slice none 0 0):=(hx2.block b (F3.1 HP0.out).1).trans HP0.out;rw[HU.out];have hcl:=hrow2.cell hlt;have hfz:=hrow2.frozen k;have HR5:=B0 ((hrow2.set k (.string ⟨u1.toArray⟩)).congr (g:=fun j=>.string (if j<k+1 then(Ea.compB 1).getD j ⟨#[]⟩else(Ea.compB 0).getD j ⟨#[]⟩)) (fun j hj=>by by_cases h1:j=k;(·subst h1;rw[G0 rfl,G0 C0,HG1.out];rfl);·rw[D0 h1];by_cases h2:j<k;(·exact X8);·rw[D0 h2,D0 C0]));have g5:=ZC w2 (w.heap.size+1) k (.string ⟨u1.toArray⟩);have HS5:=B0 (hres2.of_block (g5.block _ hres2.lt L0));have HX5:=B0 (hxx.setCell (p:=⟨w.heap.size+1,k,none⟩) L0 (.string ⟨u1.toArray⟩));have HB5:=B0 (hrb.of_block (g5.block _ hrb.lt I2));have HP5:Hid (X6 (w2.setCell ⟨w.heap.size+1,k,none⟩ (.string ⟨u1.toArray⟩)) b 1 0 (repI br) (.slice none 0 0)):=B0 ((g5.block b (F3.1 hrep).1 I2).trans hrep);clear hrow2 hres2 hx2 hrb hrep g5 hxx;go_wp2;go_roundw;(case rel=>exact⟨k+1,by omega,by go_num,HR5.out,HS5.out,HX5.out,.inr ⟨br,hbr,HB5.out,HP5.out⟩⟩);case measure=>exact QD
  ·obtain rfl:k=10:=C0;have q0:wr.cell? ⟨w.heap.size+1,0,none⟩=some (.string ⟨#[65,65,65,66,66,66]⟩):=hrow.cell (i:=0) J0;have q1:wr.cell? ⟨w.heap.size+1,1,none⟩=some (.string ⟨#[65,65,66,65,66,66]⟩):=hrow.cell (i:=1) J0;have q2:wr.cell? ⟨w.heap.size+1,2,none⟩=some (.string ⟨#[65,65,66,66,65,66]⟩):=hrow.cell (i:=2) J0;have q3:wr.cell? ⟨w.heap.size+1,3,none⟩=some (.string ⟨#[65,65,66,66,66,65]⟩):=hrow.cell (i:=3) J0;have q4:wr.cell? ⟨w.heap.size+1,4,none⟩=some (.string ⟨#[65,66,65,65,66,66]⟩):=hrow.cell (i:=4) J0;have q5:wr.cell? ⟨w.heap.size+1,5,none⟩=some (.string ⟨#[65,66,66,65,65,66]⟩):=hrow.cell (i:=5) J0;have q6:wr.cell? ⟨w.heap.size+1,6,none⟩=some (.string ⟨#[65,66,66,66,65,65]⟩):=hrow.cell (i:=6) J0;have q7:wr.cell? ⟨w.heap.size+1,7,none⟩=some (.string ⟨#[65,66,65,66,65,66]⟩):=hrow.cell (i:=7) J0;have q8:wr.cell? ⟨w.heap.size+1,8,none⟩=some (.string ⟨#[65,66,65,66,66,65]⟩):=hrow.cell (i:=8) J0;have q9:wr.cell? ⟨w.heap.size+1,9,none⟩=some (.string ⟨#[65,66,66,65,66,65]⟩):=hrow.cell (i:=9) J0;have r0:=hres.cell (i:=0) J0;have z0:=hres.frozen 0;have r1:=hres.cell (i:=1) J0;have z1:=hres.frozen 1;have r2:=hres.cell (i:=2) J0;have z2:=hres.frozen 2;have r3:=hres.cell (i:=3) J0;have z3:=hres.frozen 3;have r4:=hres.cell (i:=4) J0;have z4:=hres.frozen 4;have r5:=hres.cell (i:=5) J0;have z5:=hres.frozen 5;have r6:=hres.cell (i:=6) J0;have z6:=hres.frozen 6;have r7:=hres.cell (i:=7) J0;have z7:=hres.frozen 7;have r8:=hres.cell (i:=8) J0;have z8:=hres.frozen 8;have r9:=hres.cell (i:=9) J0;have z9:=hres.frozen 9;obtain⟨cs,hcs,hcn,hcv⟩:=hres;have hcs0:cs=Array.replicate 10 (.string ⟨#[]⟩):=(by apply Array.ext;(·rw[hcn];rfl);·intro i h1 h2;have:=hcv i C0;rw[Array.getElem?_eq_getElem h1]at this;injection this with this;rw[this];simp);subst hcs0;have m0:=Zi (i:=0) (u:=.string ⟨#[65,65,65,66,66,66]⟩) hcs;have m1:=Zi (i:=1) (u:=.string ⟨#[65,65,66,65,66,66]⟩) m0;have m2:=Zi (i:=2) (u:=.string ⟨#[65,65,66,66,65,66]⟩) m1;have m3:=Zi (i:=3) (u:=.string ⟨#[65,65,66,66,66,65]⟩) m2;have m4:=Zi (i:=4) (u:=.string ⟨#[65,66,65,65,66,66]⟩) m3;have m5:=Zi (i:=5) (u:=.string ⟨#[65,66,66,65,65,66]⟩) m4;have m6:=Zi (i:=6) (u:=.string ⟨#[65,66,66,66,65,65]⟩) m5;have m7:=Zi (i:=7) (u:=.string ⟨#[65,66,65,66,65,66]⟩) m6;have m8:=Zi (i:=8) (u:=.string ⟨#[65,66,65,66,66,65]⟩) m7;have m9:=Zi (i:=9) (u:=.string ⟨#[65,66,66,65,66,65]⟩) m8;have HM:=B0 m9;clear hcs hcn hcv m0 m1 m2 m3 m4 m5 m6 m7 m8 m9;have HXE:=B0 (fun(i:Nat) (w':World) (h:Ext w w') (u:Value)=>h.setCell (p:=⟨w.heap.size,i,none⟩) (I0 _) u);clear hrow hst hk hlt;go_wp2;refine R1 (results_cell_row results180 _ _ w.heap.size 210 _ (0,0) _ rfl HM.out underlying210 rfl M0) rfl ?_;exact⟨rfl,HXE.out 9 _ (HXE.out 8 _ (HXE.out 7 _ (HXE.out 6 _ (HXE.out 5 _ (HXE.out 4 _ (HXE.out 3 _ (HXE.out 2 _ (HXE.out 1 _ (HXE.out 0 _ hxr _) _) _) _) _) _) _) _) _) _⟩
theorem xQ (y:Nat) (hy:y<2) (w:World):Calls prog 180 #[.int .u8 (48+(y:Int))] w fun e w'=>e=.returned (arrV (Ea.compB y))∧Ext w w':=by
 rcases(by omega:y=0∨y=1)with rfl|rfl;·exact dW 48 rfl w
 ·exact eM w
end
section
open Go.RowKit
theorem xR {t:Nat} (ht:t<3):(Ea.rowB t).length=10:=by
 have:∀t:Fin 3,(Ea.rowB t).length=10:=by decide
 exact this ⟨t,ht⟩
theorem eN {t d:Nat} (ht:t<3) (hd:d<10):(Ea.rowB t)[d]? =some (Ea.bS (Ea.mS (Ea.modl t d))):=by
 have h:d<(Ea.tab.getD t []).length:=by have:∀t:Fin 3,(Ea.tab.getD t.1 []).length=10:=J0;rw[this ⟨t,ht⟩];exact hd
 unfold Ea.rowB Ea.modl;generalize Ea.tab.getD t []=L at*;rw[X2,A1,P0 h];rfl
theorem YQ (D S P:ByteArray) (us:List Nat) (sep:List Bool) (hd:Ea.digs D.data.toList=true) (hS:S.data.toList=Ea.sS us) (hl:us.length=D.size) (hu:∀u∈us,u<3) (hP:P.data.toList=Ea.mS sep)
 (hD:D.size<=1000) (hsep:sep.length<=10) (w:World):
 Calls prog 111 #[.string D,.string S,.string P] w fun e w'=>e=.returned (.string (Ea.bS (Ea.mS (Ea.drw sep D.data.toList us))))∧Ext w w':=by
 have hll:us.length=D.data.toList.length:=by rw[hl,Za]
 have HRES:=B0 (Ea.join_draw sep D.data.toList us hll)
 have HLEN:=B0 (Ea.drw_len sep D.data.toList us hd hll hu)
 rw[Za]at HLEN
 have HDG:=B0 (Ea.digs_iff.1 hd)
 have HU:=B0 hu
 have HSS:=B0 hS
 have HPP:=B0 hP
 have HLL:=B0 hl
 have HDL:=B0 (Ea.dl_len hll)
 have HDA:=B0 (fun i c t h1 h2=> @Ea.dl_at D.data.toList us i c t h1 h2)
 have hSs:S.size=D.size:=by rw[Zc hS,Ea.sS_len,hl]
 have hmk:=B8 (P:=prog) 141 9 (.string ⟨#[]⟩) 16 underlying141 M0 rfl .i64 .i64 D.size C0 C0
 have hSlt:∀j:Nat,j<D.size->j<S.size:=fun j hj=>by omega
 clear hd hS hl hu hP hll hSs
 go_enter func111,ntmps111
 go_wp2
 clear hmk
 go_loopw [15] (fun i wr=>∃j:Nat,j<=D.size∧i=.int .i64 (j:Int)∧wr.rowIs w.heap.size 9 D.size (fun k=>if k<j then .string (Ea.bS (Ea.mS ((Ea.dl D.data.toList us).getD k [])))else .string ⟨#[]⟩)∧Ext w wr) (fun i _=>D.size-(intOf i).toNat)
 case atStart=>exact SZ
 case round=>
  obtain⟨j,hj,rfl,hrow,hxr⟩:=hrel;by_cases hlt:j<D.size
  ·obtain⟨t,hut⟩:∃t,us[j]? =some t:=⟨_,P0 (by rw[HLL.out];exact hlt)⟩;have hSj:j<S.size:=hSlt j hlt;have hcell:=hrow.cell hlt;have hfz:=hrow.frozen j;have ht:t<3:=HU.out t (I1 hut);have hdc:D.data.toList[j]? =some D[j]:=P0 PF;have hd48:=HDG.out D[j] (I1 hdc);have HDLJ:=B0 (HDA.out j D[j] t hdc hut);have HSJ:Hid (S[j].toNat=65+t):=B0 (by have h1:S.data.toList[j]? =some S[j]:=P0 (by rw[Za];exact hSj);rw[HSS.out]at h1;unfold Ea.sS at h1;rw[X2,hut]at h1;have h2:Ea.cS t=S[j]:=D9;rw[<-h2];unfold Ea.cS;simp;omega);obtain⟨c,hc⟩:∃c,D[j]=c:=⟨_,rfl⟩;rw[hc]at hd48 HDLJ;obtain⟨d,hdd⟩:∃d,c.toNat-48=d:=⟨_,rfl⟩;rw[hdd]at HDLJ;have hd10:d<10:=C0;have hsub:(c.toNat:Int)-48=(d:Int):=C0;have HDR:Hid (∀w,Calls prog 181 #[.int .u8 (65+(t:Int))] w fun e w'=>e=.returned (arrV (Ea.rowB t))∧Ext w w'):=B0 (fun w=>qV t ht w);have hRd:=eN ht hd10;have hRl:=xR ht;unfold arrV at HDR;obtain⟨R,hR⟩:∃R,((Ea.rowB t).map Value.string).toArray=R:=⟨_,rfl⟩;have hRs:R.size=10:=(by rw[<-hR];simp[hRl]);have HR1:Hid (R.all (·.oneCell')=true):=B0 JE;have HRd:Hid (R[d]? =some (.string (Ea.bS (Ea.mS (Ea.modl t d))))):=B0 JF;rw[hR]at HDR;obtain⟨m,hm⟩:∃m,Ea.bS (Ea.mS (Ea.modl t d))=m:=⟨_,rfl⟩;rw[hm]at HRd;have HM:=B0 hm;clear hm;have hSJ:=HSJ.out;clear hut ht hdc hd48 hdd hRd hRl hR;go_wp2_with fail;refine(HDR.out _).mono ?_;rintro e w4 ⟨rfl,hx4⟩;have hst:=ZS R hRs HR1.out w4;have hnc:=E9 R 210 w4 HRd.out;have hx5:Ext wr (w4.alloc (.cells R 210)):=hx4.alloc _;have hrow5:=Ext.rowX hrow hx5;have hcell5:=hrow5.cell hlt;have hfz5:=hrow5.frozen j;have HR5:Hid (((w4.alloc (.cells R 210)).setCell ⟨w.heap.size,j,none⟩ (.string m)).rowIs w.heap.size 9 D.size (fun k=>if k<j+1 then .string (Ea.bS (Ea.mS ((Ea.dl D.data.toList us).getD k [])))else .string ⟨#[]⟩)):=
    B0 ((hrow5.set j (.string m)).congr (fun k hk=>by by_cases h1:k=j;(·subst h1;rw[G0 rfl,G0 C0,A1,HDLJ.out];exact R0 Value.string HM.out.symm);·rw[D0 h1];by_cases h2:k<j;(·exact X8);·rw[D0 h2,D0 C0]))
   have HX:=B0 ((hxr.trans hx5).setCell (p:=⟨w.heap.size,j,none⟩) (I0 _) (.string m));clear hcell hfz hrow hrow5 hxr;exact qM
  ·obtain rfl:j=D.size:=C0;have HJ:=B0 (Tryz.strings_Join w.heap.size 0 D.size ((Ea.dl D.data.toList us).map fun m=>Ea.bS (Ea.mS m)) P wr (fun k x hx=>by
    rw[X2,XN]at hx;obtain⟨m,hm,rfl⟩:=hx;have hk:=(J1.1 hm).1;rw[HDL.out,Za]at hk;rw[P3,hrow.cell hk,G0 hk,A1,hm];rfl) (by have:=hrow.lt;exact this) xS xS
    (by have e:((Ea.dl D.data.toList us).map fun m=>Ea.bS (Ea.mS m)).map (·.data.toList)=(Ea.dl D.data.toList us).map Ea.mS:=(by rw[D6];rfl);rw[e,HPP.out,HRES.out,Ea.mS_len,HLEN.out];have h1:sep.length*(D.size-1)<=10*1000:=VO hsep C0;omega))
   have e:((Ea.dl D.data.toList us).map fun m=>Ea.bS (Ea.mS m)).map (·.data.toList)=(Ea.dl D.data.toList us).map Ea.mS:=(by rw[D6];rfl);rw[e,HPP.out,HRES.out,N0,HDL.out,Za]at HJ;clear hrow hj hlt e;exact DR
theorem YR (p:Addr) (s:ByteArray) (i:Nat) (d:Nat) (hi:i<s.size) (hd:s[i].toNat=48+d) (w:World) (hc:w.cell? p=some (.string s)):
 Calls prog 183 #[.int .i64 (i:Int),.pointer (some p)] w fun e w'=>e=.returned (.int .i64 (d:Int))∧w=w':=by
 have hlt:(s[i].toNat:Int)-48=(d:Int):=by omega
 have hd2:d<=255:=by have:=UY s[i];omega
 clear hd
 go_enter func183,ntmps183
 go_wp2
 go_ret
 exact⟨rfl,rfl⟩
theorem T7 (s:ByteArray) (i:Nat) (h:i<s.size):Ea.dv s.data.toList i=s[i].toNat-48:=by unfold Ea.dv;exact Q6
theorem eO (s:ByteArray) (h2:s.size=2) (hd:Ea.digs s.data.toList=true) (w:World):
 Calls prog 112 #[.string s] w fun e w'=>e=.returned (.string (Ea.bS (Ea.sS (Ea.setsAdd s.data.toList))))∧Ext w w':=by
 have b2:((s.size:Int)==2)=true:=by rw[h2];rfl
 obtain⟨d0,hd0⟩:∃d,s[0].toNat=48+d:=⟨s[0].toNat-48,by have:=Ea.digs_iff.1 hd s[0] (Zq s 0 C0);omega⟩
 obtain⟨d1,hd1⟩:∃d,s[1].toNat=48+d:=⟨s[1].toNat-48,by have:=Ea.digs_iff.1 hd s[1] (Zq s 1 C0);omega⟩
 have h09:=Ea.digs_iff.1 hd s[0] (Zq s 0 C0)
 have h19:=Ea.digs_iff.1 hd s[1] (Zq s 1 C0)
 have hd0':d0<=9:=by omega
 have hd1':d1<=9:=by omega
 have H0:=B0 (fun(p:Addr) (w':World) (hc:w'.cell? p=some (.string s))=>YR p s 0 d0 C0 hd0 w' hc)
 have H1:=B0 (fun(p:Addr) (w':World) (hc:w'.cell? p=some (.string s))=>YR p s 1 d1 C0 hd1 w' hc)
 have HDV:Hid (10*Ea.dv s.data.toList 0+Ea.dv s.data.toList 1=10*d0+d1):=B0 (by rw[T7 s 0 C0,T7 s 1 C0];omega)
 clear hd h09 h19 hd0 hd1
 go_enter func112,ntmps112
 go_wp2_with fail
 refine(H0.out _ _ L0).mono ?_
 rintro e w1 ⟨rfl,rfl⟩
 go_wp2_with fail
 refine(H1.out _ _ L0).mono ?_
 rintro e w1 ⟨rfl,rfl⟩
 obtain⟨x,hx⟩:∃x,(10*d0+d1)%4=x:=⟨_,rfl⟩
 have hm:(10*(d0:Int)+(d1:Int)).tmod 4=(x:Int):=by rw[<-hx,Int.tmod_eq_emod_of_nonneg C0];omega
 have hx4:x<4:=by omega
 have HX:Hid (Ea.bS (Ea.sS (Ea.setsA2.getD x []))=Ea.bS (Ea.sS (Ea.setsAdd s.data.toList))):=B0 (by unfold Ea.setsAdd;rw[G0 (by rw[Za];exact h2)];congr 3;rw[<-hx];congr 1;exact HDV.out.symm)
 have hcl:((w.alloc (Obj.cells #[Value.string s] 9)).alloc (Obj.cells #[.string ⟨#[65,65]⟩,.string ⟨#[65,66]⟩,.string ⟨#[66,65]⟩,.string ⟨#[66,66]⟩] 214)).cell? ⟨w.heap.size+1,x,none⟩=some (.string (Ea.bS (Ea.sS (Ea.setsA2.getD x [])))):=by have h1:(w.alloc (Obj.cells #[Value.string s] 9)).heap.size=w.heap.size+1:=L0;rw[<-h1];refine E9 _ _ _ ?_;rcases(by omega:x=0∨x=1∨x=2∨x=3)with h|h|h|h<;>rw[h]<;>rfl
 rw[HX.out]at hcl
 clear hx HX
 go_wp2
 go_ret
 exact⟨rfl,Xf⟩
theorem eP (s:ByteArray) (h2:s.size=5) (hd:Ea.digs s.data.toList=true) (w:World):
 Calls prog 112 #[.string s] w fun e w'=>e=.returned (.string (Ea.bS (Ea.sS (Ea.setsAdd s.data.toList))))∧Ext w w':=by
 have b2:((s.size:Int)==2)=false:=by rw[h2];rfl
 obtain⟨d0,hd0⟩:∃d,s[0].toNat=48+d:=⟨s[0].toNat-48,by have:=Ea.digs_iff.1 hd s[0] (Zq s 0 C0);omega⟩
 have hd0':d0<=9:=by have:=Ea.digs_iff.1 hd s[0] (Zq s 0 C0);omega
 have H0:=B0 (fun(p:Addr) (w':World) (hc:w'.cell? p=some (.string s))=>YR p s 0 d0 C0 hd0 w' hc)
 obtain⟨d1,hd1⟩:∃d,s[1].toNat=48+d:=⟨s[1].toNat-48,by have:=Ea.digs_iff.1 hd s[1] (Zq s 1 C0);omega⟩
 have hd1':d1<=9:=by have:=Ea.digs_iff.1 hd s[1] (Zq s 1 C0);omega
 have H1:=B0 (fun(p:Addr) (w':World) (hc:w'.cell? p=some (.string s))=>YR p s 1 d1 C0 hd1 w' hc)
 obtain⟨d2,hd2⟩:∃d,s[2].toNat=48+d:=⟨s[2].toNat-48,by have:=Ea.digs_iff.1 hd s[2] (Zq s 2 C0);omega⟩
 have hd2':d2<=9:=by have:=Ea.digs_iff.1 hd s[2] (Zq s 2 C0);omega
 have H2:=B0 (fun(p:Addr) (w':World) (hc:w'.cell? p=some (.string s))=>YR p s 2 d2 C0 hd2 w' hc)
 obtain⟨d3,hd3⟩:∃d,s[3].toNat=48+d:=⟨s[3].toNat-48,by have:=Ea.digs_iff.1 hd s[3] (Zq s 3 C0);omega⟩
 have hd3':d3<=9:=by have:=Ea.digs_iff.1 hd s[3] (Zq s 3 C0);omega
 have H3:=B0 (fun(p:Addr) (w':World) (hc:w'.cell? p=some (.string s))=>YR p s 3 d3 C0 hd3 w' hc)
 obtain⟨d4,hd4⟩:∃d,s[4].toNat=48+d:=⟨s[4].toNat-48,by have:=Ea.digs_iff.1 hd s[4] (Zq s 4 C0);omega⟩
 have hd4':d4<=9:=by have:=Ea.digs_iff.1 hd s[4] (Zq s 4 C0);omega
 have H4:=B0 (fun(p:Addr) (w':World) (hc:w'.cell? p=some (.string s))=>YR p s 4 d4 C0 hd4 w' hc)
 have HDV:Hid (3*(Ea.dv s.data.toList 0+Ea.dv s.data.toList 2+Ea.dv s.data.toList 4)+9*(Ea.dv s.data.toList 1+Ea.dv s.data.toList 3)=3*(d0+d2+d4)+9*(d1+d3)):=B0 (by rw[T7 s 0 C0,T7 s 1 C0,T7 s 2 C0,T7 s 3 C0,T7 s 4 C0];omega)
 clear hd hd0 hd1 hd2 hd3 hd4
 go_enter func112,ntmps112
 go_wp2_with fail
 refine(H0.out _ _ L0).mono ?_
 rintro e w1 ⟨rfl,rfl⟩
 go_wp2_with fail
 refine(H2.out _ _ L0).mono ?_
 rintro e w1 ⟨rfl,rfl⟩
 go_wp2_with fail
 refine(H4.out _ _ L0).mono ?_
 rintro e w1 ⟨rfl,rfl⟩
 go_wp2_with fail
 refine(H1.out _ _ L0).mono ?_
 rintro e w1 ⟨rfl,rfl⟩
 go_wp2_with fail
 refine(H3.out _ _ L0).mono ?_
 rintro e w1 ⟨rfl,rfl⟩
 obtain⟨x,hx⟩:∃x,(3*(d0+d2+d4)+9*(d1+d3))%10=x:=⟨_,rfl⟩
 have hm:(3*((d0:Int)+(d2:Int)+(d4:Int))+9*((d1:Int)+(d3:Int))).tmod 10=(x:Int):=by rw[<-hx,Int.tmod_eq_emod_of_nonneg C0];omega
 have hx10:x<10:=by omega
 have HX:Hid (Ea.bS (Ea.sS (Ea.setsA5.getD x []))=Ea.bS (Ea.sS (Ea.setsAdd s.data.toList))):=B0 (by unfold Ea.setsAdd;rw[D0 YH];congr 3;rw[<-hx];congr 1;exact HDV.out.symm)
 have hcl:((w.alloc (Obj.cells #[Value.string s] 9)).alloc (Obj.cells #[.string ⟨#[66,66,65,65,65]⟩,.string ⟨#[66,65,66,65,65]⟩,.string ⟨#[66,65,65,66,65]⟩,.string ⟨#[66,65,65,65,66]⟩,.string ⟨#[65,66,66,65,65]⟩,.string ⟨#[65,65,66,66,65]⟩,.string ⟨#[65,65,65,66,66]⟩,.string ⟨#[65,66,65,66,65]⟩,.string ⟨#[65,66,65,65,66]⟩,.string ⟨#[65,65,66,65,66]⟩] 210)).cell? ⟨w.heap.size+1,x,none⟩=some (.string (Ea.bS (Ea.sS (Ea.setsA5.getD x [])))):=by have h1:(w.alloc (Obj.cells #[Value.string s] 9)).heap.size=w.heap.size+1:=L0;rw[<-h1];refine E9 _ _ _ ?_;rcases(by omega:x=0∨x=1∨x=2∨x=3∨x=4∨x=5∨x=6∨x=7∨x=8∨x=9)with h|h|h|h|h|h|h|h|h|h<;>rw[h]<;>rfl
 rw[HX.out]at hcl
 clear hx HX
 go_wp2
 go_ret
 exact⟨rfl,Xf⟩
theorem JG (s:ByteArray) (h:s.size=2∨s.size=5) (hd:Ea.digs s.data.toList=true) (w:World):
 Calls prog 112 #[.string s] w fun e w'=>e=.returned (.string (Ea.bS (Ea.sS (Ea.setsAdd s.data.toList))))∧Ext w w':=by
 rcases h with h|h
 ·exact eO s h hd w
 ·exact eP s h hd w
end
end Go.Proofs.YtbngggoccndefaaGreatDoor
