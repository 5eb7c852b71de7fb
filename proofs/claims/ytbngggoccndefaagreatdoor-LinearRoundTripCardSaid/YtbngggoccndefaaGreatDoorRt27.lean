/-
  Laid.
-/
import Derived.Test.YtbngggoccndefaaGreatDoorRt12
import Derived.Handy
set_option maxHeartbeats 8000000
set_option maxRecDepth 100000
set_option linter.all false
namespace Go.Proofs.YtbngggoccndefaaGreatDoor
open Go.Proofs.Tryz
section
open Go.RowKit Go.MuLone
abbrev cH:Go.Conc.Locks.MuLink:= {lock:=288,unlock:=289,ilock:=295,iunlock:=296,lockSlow:=305,unlockSlow:=308,disable:=301,enable:=303,acquire:=304,relMerge:=306,cas32:=302,add32:=307,tMutex:=304,tIMutex:=302,tPMutex:=335,tPIMutex:=349,tPI32:=351,tUP:=202,tNoCopy:=297,tU32:=257}
theorem BX:Go.Conc.Locks.MuLib prog cH:=
 ⟨func288,func289,func295,func296,func301,func303,func304,func306,func302,func307,underlying302,Tryz.runUnderlying302,Tryz.sizeOf302,Tryz.isAgg302,Tryz.zeroValue302,underlying304,Tryz.runUnderlying304,Tryz.sizeOf304,Tryz.isAgg304,Tryz.zeroValue304,underlying335,Tryz.runUnderlying335,Tryz.sizeOf335,Tryz.isAgg335,Tryz.zeroValue335,underlying349,Tryz.runUnderlying349,Tryz.sizeOf349,Tryz.isAgg349,Tryz.zeroValue349,underlying351,Tryz.runUnderlying351,Tryz.sizeOf351,Tryz.isAgg351,Tryz.zeroValue351,underlying202,Tryz.runUnderlying202,Tryz.sizeOf202,Tryz.isAgg202,Tryz.zeroValue202,underlying297,Tryz.runUnderlying297,Tryz.sizeOf297,Tryz.isAgg297,Tryz.zeroValue297,underlying21,Tryz.runUnderlying21,Tryz.sizeOf21,Tryz.isAgg21,Tryz.zeroValue21,M0⟩
def ABBA:List (List UInt8):=[[65],[66],[66],[65]]
def F9 (w:World) (b:Nat) (m:Int):Prop:=∃v,w.heap[b]? =some (.cells #[.int .u32 0,.int .i32 m,.int .u32 0,.nilIface,v] 310 (0,0))∧SlN w 0 v (ABBA.map encS)∧v.ownBlock≠some b
theorem cI (bx:Nat) (w:World) (h0:w.cell? ⟨bx,0,none⟩=some (.string ⟨#[65]⟩)) (h1:w.cell? ⟨bx,1,none⟩=some (.string ⟨#[66]⟩)) (h2:w.cell? ⟨bx,2,none⟩=some (.string ⟨#[66]⟩)) (h3:w.cell? ⟨bx,3,none⟩=some (.string ⟨#[65]⟩)):
 Calls prog 241 #[.slice (some ⟨bx,0,none⟩) 4 4] w fun e w'=>∃b,e=.returned (.pointer (some ⟨b,0,none⟩))∧w.heap.size<=b∧F9 w' b 0∧Ext w w':=by
 go_enter func241,ntmps241
 go_wp2_with (at_builtin;go_loud (refine SK rfl _ _ 141 9 (.string ⟨#[]⟩) 16 rfl underlying141 gK rfl J0 w.heap.size _ [] rfl (Own.nil _ _ _) bx 0 4 4 (ABBA.map encS) rfl rfl ?_ ?_ J0 (I0 _) ?_))
 ·intro j u hj
  match j with
  |0=>simp[ABBA]at hj;subst hj;exact h0
  |1=>simp[ABBA]at hj;subst hj;exact h1
  |2=>simp[ABBA]at hj;subst hj;exact h2
  |3=>simp[ABBA]at hj;subst hj;exact h3
  |j+4=>simp[ABBA]at hj
 ·intro u hu;simp only[ABBA,Y4,XC,U1,L4,M4]at hu;rcases hu with h|h|h|h<;>rw[h]<;>rfl
 intro v5 w5 hown hg hat
 obtain⟨a5,c5,rfl⟩:=hown.sl.form
 rw[show(ABBA.map encS).length=4 from rfl]at*
 have hx5:Ext w w5:=(Ext.refl w).ofGrown hg (by intro k hk;simp[Value.ownBlock]at hk)
 have hlow:=J4 hown
 have hsl:=SlN.ofOwn hown
 clear hg hat hown
 go_wp2
 go_ret
 refine⟨w5.heap.size,rfl,hx5.size,⟨_,heap_alloc_last w5 _,(hsl.mono (U0 _)).ext ((Ext.refl w5).alloc _),fun h=> ?_⟩,hx5.alloc _⟩
 have:=(hlow _ h).2
 omega
def swpB (i:Nat):Nat:=if i=65 then 66 else if i=66 then 65 else i
theorem cJ (b:Nat) (w:World) (m:Int) (hF:F9 w b m):
 Calls prog 276 #[.pointer (some ⟨b,0,none⟩)] w fun e w'=>∃br,e=.returned (.iface 329 (.pointer (some ⟨br,0,none⟩)))∧w.heap.size<=br∧w'.rowIs br 328 256 (fun i=>.int .u8 (swpB i:Int))∧Ext w w':=by
 obtain⟨v,hbk,hsl,hne⟩:=hF
 have c4:w.cell? ⟨b,4,none⟩=some v:=by simp[World.cell?,hbk]
 obtain⟨a0,c0,rfl⟩:=hsl.1.form
 rw[show(ABBA.map encS).length=4 from rfl]at*
 have k0:=hsl.1.at_ (k:=0) J0
 have k1:=hsl.1.at_ (k:=1) J0
 have k2:=hsl.1.at_ (k:=2) J0
 have k3:=hsl.1.at_ (k:=3) J0
 obtain⟨bx,off,rfl,hlt,k0⟩:=k0
 obtain⟨_,_,e1,_,k1⟩:=k1
 obtain⟨_,_,e2,_,k2⟩:=k2
 obtain⟨_,_,e3,_,k3⟩:=k3
 cases e1;cases e2;cases e3
 simp only[ABBA,Y4,XC,List.getElem_cons_zero,MN,encS,G6]at k0 k1 k2 k3
 obtain⟨SA,hSA⟩:∃SA,(⟨#[65]⟩:ByteArray)=SA:=⟨_,rfl⟩
 obtain⟨SB,hSB⟩:∃SB,(⟨#[66]⟩:ByteArray)=SB:=⟨_,rfl⟩
 have hA1:SA.size=1:=by rw[<-hSA];rfl
 have hB1:SB.size=1:=by rw[<-hSB];rfl
 have hA0:SA[0]=65:=by subst hSA;rfl
 have hB0:SB[0]=66:=by subst hSB;rfl
 have k0:w.cell? ⟨bx,off,none⟩=some (.string SA):=by rw[<-hSA];exact k0
 have k1:w.cell? ⟨bx,off+1,none⟩=some (.string SB):=by rw[<-hSB];exact k1
 have k2:w.cell? ⟨bx,off+2,none⟩=some (.string SB):=by rw[<-hSB];exact k2
 have k3:w.cell? ⟨bx,off+3,none⟩=some (.string SA):=by rw[<-hSA];exact k3
 clear hsl hne hbk hSA hSB
 go_enter func276,ntmps276
 go_wp2_with fail
 go_loop [5,4] (fun i a=>a=.bool true∧(i=.int .i64 0∨i=.int .i64 2∨i=.int .i64 4)) (fun i _=>4-(intOf i).toNat)
 case atStart=>exact⟨rfl,.inl rfl⟩
 case round=>obtain⟨rfl,hrel⟩:=hrel;rcases hrel with rfl|rfl|rfl;(·go_wp2;go_round;(case rel=>exact⟨rfl,.inr (.inl rfl)⟩);case measure=>simp[intOf]);(·go_wp2;go_round;(case rel=>exact⟨rfl,.inr (.inr rfl)⟩);case measure=>simp[intOf]);·have hzs:Tryz.zeroCells328.size=256:=Y0;have hz1:Tryz.zeroCells328.all (·.oneCell')=true:=Y0;have hst:=run_storeCells_new (P:=prog) w 328 Tryz.zeroCells328 Tryz.zeroCells328 (by rw[hzs];kernel_rfl) rfl hz1;have hrow0:(w.alloc (.cells Tryz.zeroCells328 328)).rowIs w.heap.size 328 256 (fun _=>.int .u8 0):=(by have:=RI w Tryz.zeroCells328 328 (fun _=>.int .u8 0) (fun i hi=>by have h:Tryz.zeroCells328=Array.replicate 256 (.int .u8 0):=Y0;rw[hzs]at hi;rw[h];simp[hi]);rw[hzs]at this;exact R2);have HROW0:=B0 hrow0;have HK:=B0 (fun(w':World) (hx:Ext w w')=>And.intro ((hx.cell (p:=⟨bx,off,none⟩) hlt).trans k0) (And.intro ((hx.cell (p:=⟨bx,off+1,none⟩) hlt).trans k1) (And.intro ((hx.cell (p:=⟨bx,off+2,none⟩) hlt).trans k2) ((hx.cell (p:=⟨bx,off+3,none⟩) hlt).trans k3))));clear hz1 hzs hrow0 c4 k0 k1 k2 k3;go_wp2_with fail;go_loopw [61] (fun i wr=>∃k:Nat,k<=256∧i=.int .i64 (k:Int)∧wr.rowIs w.heap.size 328 256 (fun j=>if j<k then .int .u8 (j:Int)else .int .u8 0)∧Ext w wr) (fun i _=>256-(intOf i).toNat);(case atStart=>exact⟨0,by omega,rfl,HROW0.out.congr (fun i _=>by simp),Xe⟩);case round=>obtain⟨k,hk,rfl,hrow,hxr⟩:=hrel;by_cases hlk:k<256;(·have hcl:=hrow.cell hlk;have hfz:=hrow.frozen k;have HR:=B0 ((hrow.set k (.int .u8 (k:Int))).congr (g:=fun j=>if j<k+1 then .int .u8 (j:Int)else .int .u8 0) (fun j hj=>by by_cases h1:j=k;(·subst h1;rw[G0 rfl,G0 C0]);·rw[D0 h1];by_cases h2:j<k;(·exact X8);·rw[D0 h2,D0 C0]));have HX:=B0 (hxr.setCell (p:=⟨w.heap.size,k,none⟩) (I0 _) (.int .u8 (k:Int)));clear hrow hxr;go_wp2;go_roundw;(case rel=>exact⟨k+1,by omega,by go_num,HR.out,HX.out⟩);case measure=>exact QD);·obtain rfl:k=256:=C0;have HID:Hid (wr.rowIs w.heap.size 328 256 (fun j=>.int .u8 (j:Int))):=B0 (hrow.congr (fun i hi=>by rw[G0 hi]));clear hrow hk hlk;go_wp2_with fail;go_loopw [8] (fun i wr=>((i=.int .i64 2∧wr.rowIs w.heap.size 328 256 (fun j=>.int .u8 (j:Int)))∨(i=.int .i64 0∧wr.rowIs w.heap.size 328 256 (fun j=>.int .u8 ((if j=66 then 65 else j:Nat):Int)))∨(i=.int .i64 (-2)∧wr.rowIs w.heap.size 328 256 (fun j=>.int .u8 (swpB j:Int))))∧Ext w wr) (fun i _=>(match i with| .int _ m=>(m+2).toNat|_=>0));(case atStart=>exact⟨.inl ⟨rfl,HID.out⟩,hxr⟩);case round=>clear hxr;obtain⟨hrel,hxr⟩:=hrel;obtain⟨k0,k1,k2,k3⟩:=HK.out _ hxr;rcases hrel with⟨rfl,hrow⟩|⟨rfl,hrow⟩|⟨rfl,hrow⟩;(·have hfz:=hrow.frozen 66;have hcl:=hrow.cell (i:=66) J0;have HR:=B0 ((hrow.set 66 (.int .u8 65)).congr (g:=fun j=>.int .u8 ((if j=66 then 65 else j:Nat):Int)) (fun j hj=>by by_cases h:j=66;(·subst h;rfl);·rw[D0 h,D0 h]));have HX:=B0 (hxr.setCell (p:=⟨w.heap.size,66,none⟩) (I0 _) (.int .u8 65));clear hrow hxr;go_wp2;go_roundw;(case rel=>exact⟨.inr (.inl ⟨rfl,HR.out⟩),HX.out⟩);case measure=>simp);(·have hfz:=hrow.frozen 65;have hcl:=hrow.cell (i:=65) J0;have HR:=B0 ((hrow.set 65 (.int .u8 66)).congr (g:=fun j=>.int .u8 (swpB j:Int)) (fun j hj=>by by_cases h:j=65;(·subst h;rfl);·rw[D0 h];unfold swpB;rw[D0 h]));have HX:=B0 (hxr.setCell (p:=⟨w.heap.size,65,none⟩) (I0 _) (.int .u8 66));clear hrow hxr;go_wp2;go_roundw;(case rel=>exact⟨.inr (.inr ⟨rfl,HR.out⟩),HX.out⟩);case measure=>simp);·clear k0 k1 k2 k3;go_wp2;go_ret;exact⟨w.heap.size,rfl,I0 _,hrow,hxr⟩
theorem cL (w:World):(binOp .eql 90 (.slice none 0 0) (.slice none 0 0)).run prog w=.ok (.bool true) w:=by first|kernel_rfl|simp[binOp,go_sem]
theorem cM (b n c:Nat) (w:World):(binOp .eql 90 (.slice (some ⟨b,0,none⟩) n c) (.slice none 0 0)).run prog w=.ok (.bool false) w:=by first|kernel_rfl|simp[binOp,go_sem]
def YL (w:World) (b n:Nat) (f:Nat->Value):Prop:=b<w.heap.size∧∀j,j<n->w.cell? ⟨b,j,none⟩=some (f j)∧w.frozen? ⟨b,j,none⟩=false
theorem YL.set {w:World} {b n:Nat} {f:Nat->Value} (h:YL w b n f) (k:Nat) (u:Value):YL (w.setCell ⟨b,k,none⟩ u) b n (fun j=>if j=k then u else f j):=by
 refine⟨by simpa using h.1,fun j hj=>⟨?_,by simpa using(h.2 j hj).2⟩⟩;by_cases e:j=k;·subst e;show _=some (if j=j then u else f j);rw[G0 rfl];exact World.cell?_setCell_same _ _ _ (h.2 j hj).1
 ·show _=some (if j=k then u else f j);rw[D0 e,UF _ _ _ _ (fun h=>e (by injection h with _ h;exact h.symm))];exact(h.2 j hj).1
theorem cN (s:ByteArray) (w:World):∃cap W,(convert 9 90 (.string s)).run prog w=.ok (.slice (some ⟨w.heap.size,0,none⟩) s.size cap) W∧Ext w W∧YL W w.heap.size s.size (fun j=>encB (s.data.toList.getD j 0)):=by
 refine⟨_,_,Lib.run_convert_string_bytes w 9 90 5 s underlying9 underlying90 underlying5,?_,?_,fun j hj=>⟨?_,?_⟩⟩;·refine⟨rfl,rfl,rfl,by rw[Lib.bytesWorld_size];omega,fun i hi=>Lib.bytesWorld_at_old w _ s i hi⟩
 ·rw[Lib.bytesWorld_size];omega
 ·exact Lib.bytesWorld_cell w _ s j hj
 ·have h1:=Lib.bytesWorld_at_new w 5 s;have h2:j<(Lib.bytesCells w 5 s).size:=(by unfold Lib.bytesCells;simp;have:s.data.size=s.size:=rfl;omega);simp[World.frozen?,h1];omega
def swpU (c:UInt8):UInt8:=if c=65 then 66 else 65
theorem BY (br:Nat) (s:ByteArray) (w:World) (hrow:w.rowIs br 328 256 (fun i=>.int .u8 (swpB i:Int))) (hs:∀c∈s.data.toList,c=65∨c=66) (h0:0<s.size) (hn:s.size<=1000):
 Calls prog 383 #[.pointer (some ⟨br,0,none⟩),.string s] w fun e w'=>e=.returned (.string ⟨(s.data.toList.map swpU).toArray⟩)∧Ext w w':=by
 have HROW:=B0 hrow
 have HS:=B0 hs
 clear hrow hs
 go_enter func383,ntmps383
 have HC:Hid (∀w',Ext w w'->w'.cell? ⟨br,65,none⟩=some (.int .u8 66)∧w'.cell? ⟨br,66,none⟩=some (.int .u8 65)):=B0 (fun w' hx=>
  ⟨(hx.cell (p:=⟨br,65,none⟩) HROW.out.lt).trans (HROW.out.cell (i:=65) J0),(hx.cell (p:=⟨br,66,none⟩) HROW.out.lt).trans (HROW.out.cell (i:=66) J0)⟩)
 have hnil:=cL
 have hnn:=cM
 go_wp2_with fail
 go_loopw [6,5] (fun i u wr=>(i=.int .i64 0∧u=.slice none 0 0∧w=wr)∨∃(k cap:Nat),1<=k∧k<=s.size∧i=.int .i64 (k:Int)∧u=.slice (some ⟨w.heap.size,0,none⟩) s.size cap∧YL wr w.heap.size s.size (fun j=>encB (if j<k then swpU (s.data.toList.getD j 0)else s.data.toList.getD j 0))∧Ext w wr) (fun i _ _=>s.size-(intOf i).toNat)
 case atStart=>exact .inl ⟨rfl,rfl,rfl⟩
 case round=>rcases hrel with⟨rfl,rfl,rfl⟩|⟨k,cap,hk1,hk,rfl,rfl,hbuf,hxr⟩;(·obtain⟨k0,k1⟩:=HC.out _ (Ext.refl w);obtain⟨cap,W,hcv,hxW,hbuf⟩:=cN s w;obtain⟨k2,k3⟩:=HC.out _ hxW;have hcl:=(hbuf.2 0 h0).1;have hfz:=(hbuf.2 0 h0).2;have HG:Hid (s.data.toList.getD 0 0=s[0]):=B0 (by rw[A1,P0 (by rw[Za];exact h0)];rfl);have HR:Hid (∀d:UInt8,swpU s[0]=d->YL (W.setCell ⟨w.heap.size,0,none⟩ (.int .u8 (d.toNat:Int))) w.heap.size s.size (fun j=>encB (if j<1 then swpU (s.data.toList.getD j 0)else s.data.toList.getD j 0))):=B0 (fun d hd=>by have h1:=hbuf.set 0 (.int .u8 (d.toNat:Int));refine⟨h1.1,fun j hj=>⟨(h1.2 j hj).1.trans ?_,(h1.2 j hj).2⟩⟩;dsimp only;by_cases e:j=0;(·subst e;rw[G0 rfl,G0 C0,HG.out,hd];rfl);·rw[D0 e,D0 C0]);have HX:=B0 (fun u=>hxW.setCell (p:=⟨w.heap.size,0,none⟩) (I0 _) u);have hc:=HS.out s[0] (Zq s 0 h0);clear hbuf;rcases hc with hc|hc;(·have HR1:=B0 (HR.out 66 G9);have hcn:s[0].toNat=65:=G9;exact BZ);·have HR1:=B0 (HR.out 65 G9);have hcn:s[0].toNat=66:=G9;exact BZ);·by_cases hlt:k<s.size;(·obtain⟨k0,k1⟩:=HC.out _ hxr;have hcl:=(hbuf.2 k hlt).1;have hfz:=(hbuf.2 k hlt).2;have HG:Hid (s.data.toList.getD k 0=s[k]):=B0 DQ;have HR:Hid (∀d:UInt8,swpU s[k]=d->YL (wr.setCell ⟨w.heap.size,k,none⟩ (.int .u8 (d.toNat:Int))) w.heap.size s.size (fun j=>encB (if j<k+1 then swpU (s.data.toList.getD j 0)else s.data.toList.getD j 0))):=B0 (fun d hd=>by have h1:=hbuf.set k (.int .u8 (d.toNat:Int));refine⟨h1.1,fun j hj=>⟨(h1.2 j hj).1.trans ?_,(h1.2 j hj).2⟩⟩;dsimp only;by_cases e:j=k;(·subst e;rw[G0 rfl,G0 C0,HG.out,hd];rfl);·rw[D0 e];by_cases h2:j<k;(·exact X8);·rw[D0 h2,D0 C0]);have HX:=B0 (fun u=>hxr.setCell (p:=⟨w.heap.size,k,none⟩) (I0 _) u);have hc:=HS.out s[k] (Zq s k hlt);clear hbuf hxr;rcases hc with hc|hc;(·have HR1:=B0 (HR.out 66 G9);have hcn:s[k].toNat=65:=G9;exact AA);·have HR1:=B0 (HR.out 65 G9);have hcn:s[k].toNat=66:=G9;exact AA);·obtain rfl:k=s.size:=C0;have hsl:Sl wr (.slice (some ⟨w.heap.size,0,none⟩) s.size cap) ((s.data.toList.map swpU).map encB):=(by have hlen:((s.data.toList.map swpU).map encB).length=s.size:=(by rw[N0,N0,Za]);refine .inr ⟨_,0,cap,by rw[hlen],hbuf.1,fun i hi=> ?_⟩;rw[hlen]at hi;rw[P3,(hbuf.2 i hi).1];dsimp only;rw[G0 hi,X2,X2,A1,P0 (by rw[Za];exact hi)];rfl);have hcv:=Zn hsl;clear hlt hk hbuf hsl;go_wp2;go_ret;exact⟨rfl,hxr⟩
theorem Zi {w:World} {b i:Nat} {cs:Array Value} {t:TypeId} {fr:Nat×Nat} {u:Value} (h:w.heap[b]? =some (.cells cs t fr)):(w.setCell ⟨b,i,none⟩ u).heap[b]? =some (.cells (cs.setIfInBounds i u) t fr):=by simp[World.setCell,UI,h]
theorem ZC (w:World) (b i:Nat) (u:Value):w.grownBy (w.setCell ⟨b,i,none⟩ u) (some b):=by refine⟨rfl,rfl,rfl,by simp,fun k hk hne=> ?_⟩;have:k≠b:=fun e=>hne (by rw[e]);simp[World.setCell,UI,Ne.symm this]
theorem Zk {w:World} {b i:Nat} {cs:Array Value} {t:TypeId} {x:Value} (h:w.heap[b]? =some (.cells cs t (0,0))) (hx:cs[i]? =some x):w.cell? ⟨b,i,none⟩=some x:=by simp[World.cell?,h,hx]
theorem ZL {w:World} {b i:Nat} {cs:Array Value} {t:TypeId} (h:w.heap[b]? =some (.cells cs t (0,0))):w.frozen? ⟨b,i,none⟩=false:=by simp[World.frozen?,h]
def X6 (w:World) (b:Nat) (d m:Int) (i v:Value):Prop:=w.heap[b]? =some (.cells #[.int .u32 d,.int .i32 m,.int .u32 0,i,v] 310 (0,0))
def repI (br:Nat):Value:=.iface 329 (.pointer (some ⟨br,0,none⟩))
theorem cO (b:Nat) (w:World) (m:Int) (hF:F9 w b m):
 Calls prog 269 #[.pointer (some ⟨b,0,none⟩)] w fun e w'=>e=.returned (.tuple #[])∧∃br,w.heap.size<=br∧w'.rowIs br 328 256 (fun i=>.int .u8 (swpB i:Int))∧X6 w' b 0 m (repI br) (.slice none 0 0)∧w.grownBy w' (some b):=by
 have HB:=B0 (cJ b w m hF)
 obtain⟨v,hbk,_,_⟩:=hF
 have hlt:b<w.heap.size:=(F3.1 hbk).1
 go_enter func269,ntmps269
 go_wp2_with fail
 refine HB.out.mono ?_
 rintro e w1 ⟨br,rfl,hbr,hrow,hx1⟩
 have hbk1:w1.heap[b]? =_:=(hx1.block b hlt).trans hbk
 have c3:=Zk hbk1 (i:=3) rfl
 have c4:=Zk hbk1 (i:=4) rfl
 have f3:=ZL hbk1 (i:=3)
 have f4:=ZL hbk1 (i:=4)
 have h1:=Zi (i:=3) (u:=repI br) hbk1
 have h2:=Zi (i:=4) (u:=.slice none 0 0) h1
 have hg:w.grownBy ((w1.setCell ⟨b,3,none⟩ (repI br)).setCell ⟨b,4,none⟩ (.slice none 0 0)) (some b):=by have g1:=ZC w1 b 3 (repI br);have g2:=ZC (w1.setCell ⟨b,3,none⟩ (repI br)) b 4 (.slice none 0 0);refine⟨hx1.os,hx1.tape,hx1.output,by simpa using hx1.size,fun k hk hne=> ?_⟩;have hk1:k<w1.heap.size:=M1 hk hx1.size;rw[g2.block k (by simpa using hk1) hne,g1.block k hk1 hne];exact hx1.block k hk
 have hrw:((w1.setCell ⟨b,3,none⟩ (repI br)).setCell ⟨b,4,none⟩ (.slice none 0 0)).rowIs br 328 256 (fun i=>.int .u8 (swpB i:Int)):=by refine hrow.of_block ?_;have g1:=ZC w1 b 3 (repI br);have g2:=ZC (w1.setCell ⟨b,3,none⟩ (repI br)) b 4 (.slice none 0 0);have hne:some br≠some b:=E1;rw[g2.block br (by simpa using hrow.lt) hne,g1.block br hrow.lt hne]
 have H:=B0 (And.intro h2 (And.intro hg hrw))
 clear hbk hbk1 h1 h2 hg hrw hrow hx1
 unfold repI at H
 go_wp2
 go_end0
 exact⟨rfl,br,hbr,H.out.2.2,H.out.1,H.out.2.1⟩
theorem cP (a:Addr) (x:Value) (u:FrameMode) (w:World) (hc:w.cell? a=some x) (hz:w.frozen? a=false):
 CallsD prog 290 #[.pointer (some a),.bool true] u w fun e u' w'=>u'=u∧(e=.returned (.tuple #[])∧w'=w.drew.setCell a (.int .u32 1)):=by
 have hc':w.drew.cell? a=some x:=by go_simp
 have hz':w.drew.frozen? a=false:=by go_simp
 have hst:=run_call_store (P:=prog) func297 M0 M0 M0 M0 (k:=.u32) (y:=1) hc' hz'
 go_enter_d func290,ntmps290
 go_wp2
 go_region_calls
 all_goals(go_end0;exact⟨rfl,rfl⟩)
theorem LJ (a:Addr) (x:Int) (hx:x=0∨x=1) (w:World) (hc:w.cell? a=some (.int .u32 x)):
 Calls prog 274 #[.pointer (some a)] w fun e w'=>e=.returned (.bool (x !=0))∧w=w':=by
 have hl:=run_call_load (P:=prog) func287 M0 M0 M0 .u32 M0 (w:=w) (a:=a) (x:=x) hc
 rcases hx with rfl|rfl
 ·go_enter func274,ntmps274;exact VR
 ·go_enter func274,ntmps274;exact VR
theorem cQ (b:Nat) (w:World) (hF:F9 w b 0):
 Calls prog 275 #[.pointer (some ⟨b,0,none⟩),.func (.func 269) #[.pointer (some ⟨b,0,none⟩)] #[]] w fun e w'=>e=.returned (.tuple #[])∧∃br,w.heap.size<=br∧w'.rowIs br 328 256 (fun i=>.int .u8 (swpB i:Int))∧X6 w' b 1 0 (repI br) (.slice none 0 0)∧w.grownBy w' (some b):=by
 obtain⟨v,hbk,hsl,hne⟩:=hF
 have hlt:b<w.heap.size:=(F3.1 hbk).1
 have c1:=Zk hbk (i:=1) rfl
 have f1:=ZL hbk (i:=1)
 have h1:=Zi (i:=1) (u:=.int .i32 1) hbk
 have g1:=ZC w b 1 (.int .i32 1)
 have hF1:F9 (w.setCell ⟨b,1,none⟩ (.int .i32 1)) b 1:=by refine⟨v,h1,?_,hne⟩;exact(LH.grow (v:=.slice (some ⟨b,0,none⟩) 1 1) (v':=.slice (some ⟨b,0,none⟩) 1 1) (by simpa[Value.ownBlock]using g1) w.heap.size (I0 _) (.inl rfl) 0 v _ hsl (.inr (by simp[Value.ownBlock];exact fun e=>hne e.symm))).1
 have HB:=B0 (cO b _ 1 hF1)
 have HL:=B0 (LJ ⟨b,0,none⟩ 0 (.inl rfl) _ (Zk h1 (i:=0) rfl))
 have hnot:∀(x:Bool) (w:World),(Op.unary .not (.bool x)).run prog w=.ok (.bool (!x)) w:=fun _ _=>rfl
 go_enter_defers func275,ntmps275
 go_wp2_with (go_at_call 288;refine(lock_free BX ⟨b,1,none⟩ _ c1 f1).mono ?_;rintro e w' ⟨rfl,rfl⟩)
 refine HL.out.mono ?_
 rintro e w1 ⟨rfl,rfl⟩
 go_wp2_with fail
 refine HB.out.mono ?_
 rintro e w2 ⟨rfl,br,hbr,hrow,hrep,hg⟩
 have q0:=Zk hrep (i:=0) rfl
 have q1:=Zk hrep (i:=1) rfl
 have z0:=ZL hrep (i:=0)
 have z1:=ZL hrep (i:=1)
 have hrep2:=Zi (i:=0) (u:=.int .u32 1) (show w2.drew.heap[b]? =_ from hrep)
 have q1':=Zk hrep2 (i:=1) rfl
 have z1':=ZL hrep2 (i:=1)
 have hrep3:=Zi (i:=1) (u:=.int .i32 0) hrep2
 have hsz:(w.setCell ⟨b,1,none⟩ (.int .i32 1)).heap.size=w.heap.size:=by simp
 rw[hsz]at hbr
 have g2:=ZC w2.drew b 0 (.int .u32 1)
 have g3:=ZC (w2.drew.setCell ⟨b,0,none⟩ (.int .u32 1)) b 1 (.int .i32 0)
 have hrw:((w2.drew.setCell ⟨b,0,none⟩ (.int .u32 1)).setCell ⟨b,1,none⟩ (.int .i32 0)).rowIs br 328 256 (fun i=>.int .u8 (swpB i:Int)):=by refine hrow.of_block ?_;have hne:some br≠some b:=E1;rw[g3.block br (by simpa using hrow.lt) hne,g2.block br hrow.lt hne];rfl
 have hgg:w.grownBy ((w2.drew.setCell ⟨b,0,none⟩ (.int .u32 1)).setCell ⟨b,1,none⟩ (.int .i32 0)) (some b):=by have hw2:w.heap.size<=w2.heap.size:=(by have:=hg.size;rw[hsz]at this;exact R2);refine⟨hg.os.trans g1.os,hg.tape.trans g1.tape,hg.output.trans g1.output,by simpa using hw2,fun k hk hne=> ?_⟩;have hk2:k<w2.heap.size:=M1 hk hw2;rw[g3.block k (by simpa using hk2) hne,g2.block k hk2 hne];exact(hg.block k (by rw[hsz];exact hk) hne).trans (g1.block k hk hne)
 have H:=B0 (And.intro hrep3 (And.intro hgg hrw))
 go_wp2
 refine leaves_cons (f:=290) (args:= #[.pointer (some ⟨b,0,none⟩),.bool true]) L0 (by simp[go_sem]) ?_
 refine(cP ⟨b,0,none⟩ (.int .u32 0) .returning _ q0 z0).mono ?_
 rintro e u' w'' ⟨rfl,rfl,rfl⟩
 refine leaves_cons (f:=289) (args:= #[.pointer (some ⟨b,1,none⟩)]) (by simp[settle]) (by simp[go_sem]) ?_
 refine(unlock_deferred BX ⟨b,1,none⟩ _ _ q1' z1').mono ?_
 rintro e u' w'' ⟨rfl,rfl,rfl⟩
 exact⟨_,RJ rfl _ _ _,rfl,br,hbr,H.out.2.2,H.out.1,H.out.2.1⟩
theorem cR (b:Nat) (w:World) (hF:F9 w b 0):
 Calls prog 268 #[.pointer (some ⟨b,0,none⟩),.func (.func 269) #[.pointer (some ⟨b,0,none⟩)] #[]] w fun e w'=>e=.returned (.tuple #[])∧∃br,w.heap.size<=br∧w'.rowIs br 328 256 (fun i=>.int .u8 (swpB i:Int))∧X6 w' b 1 0 (repI br) (.slice none 0 0)∧w.grownBy w' (some b):=by
 have HS:=B0 (cQ b w hF)
 obtain⟨v,hbk,_,_⟩:=hF
 have HL:=B0 (LJ ⟨b,0,none⟩ 0 (.inl rfl) w (Zk hbk (i:=0) rfl))
 clear hbk
 go_enter func268,ntmps268
 go_wp2_with fail
 refine HL.out.mono ?_
 rintro e w1 ⟨rfl,rfl⟩
 go_wp2_with fail
 refine HS.out.mono ?_
 rintro e w2 ⟨rfl,hh⟩
 go_wp2
 go_end0
 exact⟨rfl,hh⟩
theorem cT (b br:Nat) (f:Value) (w:World) (hR:X6 w b 1 0 (repI br) (.slice none 0 0)):
 Calls prog 268 #[.pointer (some ⟨b,0,none⟩),f] w fun e w'=>e=.returned (.tuple #[])∧w=w':=by
 have HL:=B0 (LJ ⟨b,0,none⟩ 1 (.inr rfl) w (Zk hR (i:=0) rfl))
 clear hR
 go_enter func268,ntmps268
 go_wp2_with fail
 refine HL.out.mono ?_
 rintro e w1 ⟨rfl,rfl⟩
 go_wp2
 go_end0
 exact⟨rfl,rfl⟩
theorem AC (v:Value) (w:World):(method 505 329 v "Replace").run prog w=.ok (383,v) w:=Y0
theorem cU (b:Nat) (s:ByteArray) (w:World) (hF:F9 w b 0) (hs:∀c∈s.data.toList,c=65∨c=66) (h0:0<s.size) (hn:s.size<=1000):
 Calls prog 242 #[.pointer (some ⟨b,0,none⟩),.string s] w fun e w'=>e=.returned (.string ⟨(s.data.toList.map swpU).toArray⟩)∧∃br,w.heap.size<=br∧w'.rowIs br 328 256 (fun i=>.int .u8 (swpB i:Int))∧X6 w' b 1 0 (repI br) (.slice none 0 0)∧w.grownBy w' (some b):=by
 have HD:=B0 (cR b w hF)
 have HB:=B0 (fun br w' hrow=>BY br s w' hrow hs h0 hn)
 clear hs hF
 go_enter func242,ntmps242
 go_wp2_with fail
 refine HD.out.mono ?_
 rintro e w1 ⟨rfl,br,hbr,hrow,hrep,hg⟩
 have c3:=Zk hrep (i:=3) rfl
 unfold repI at c3
 have hm:=AC
 go_wp2_with fail
 refine(HB.out br w1 hrow).mono ?_
 rintro e w2 ⟨rfl,hx2⟩
 have hrow2:=Ext.rowX hrow hx2
 have hrep2:X6 w2 b 1 0 (repI br) (.slice none 0 0):=(hx2.block b (F3.1 hrep).1).trans hrep
 have hg2:w.grownBy w2 (some b):=⟨hx2.os.trans hg.os,hx2.tape.trans hg.tape,hx2.output.trans hg.output,L3 hg.size hx2.size,fun k hk hne=>(hx2.block k (M1 hk hg.size)).trans (hg.block k hk hne)⟩
 clear hrow hrep hg
 go_wp2
 go_ret
 exact⟨rfl,br,hbr,hrow2,hrep2,hg2⟩
theorem cV (b br:Nat) (s:ByteArray) (w:World) (hrow:w.rowIs br 328 256 (fun i=>.int .u8 (swpB i:Int))) (hrep:X6 w b 1 0 (repI br) (.slice none 0 0)) (hs:∀c∈s.data.toList,c=65∨c=66) (h0:0<s.size) (hn:s.size<=1000):
 Calls prog 242 #[.pointer (some ⟨b,0,none⟩),.string s] w fun e w'=>e=.returned (.string ⟨(s.data.toList.map swpU).toArray⟩)∧Ext w w':=by
 have HD:=B0 (fun f=>cT b br f w hrep)
 have HB:=B0 (BY br s w hrow hs h0 hn)
 have c3:=Zk hrep (i:=3) rfl
 unfold repI at c3
 have hm:=AC
 clear hs hrow hrep
 go_enter func242,ntmps242
 go_wp2_with fail
 refine(HD.out _).mono ?_
 rintro e w1 ⟨rfl,rfl⟩
 go_wp2_with fail
 refine HB.out.mono ?_
 rintro e w2 ⟨rfl,hx2⟩
 go_wp2
 go_ret
 exact⟨rfl,hx2⟩
end
end Go.Proofs.YtbngggoccndefaaGreatDoor
