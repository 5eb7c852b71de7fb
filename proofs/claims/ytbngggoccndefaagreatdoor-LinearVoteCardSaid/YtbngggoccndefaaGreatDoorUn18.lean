/-
  Laid.
-/
import Derived.Test.YtbngggoccndefaaGreatDoorUn08
import Derived.Handy
set_option maxHeartbeats 16000000
set_option maxRecDepth 100000
set_option linter.all false
namespace Go.Proofs.YtbngggoccndefaaGreatDoor
open Go.Proofs.Tryz
section
open Go.RowKit Go.MuLone
abbrev ZnH:Go.Conc.Locks.MuLink:= {lock:=288,unlock:=289,ilock:=295,iunlock:=296,lockSlow:=305,unlockSlow:=308,disable:=301,enable:=303,acquire:=304,relMerge:=306,cas32:=302,add32:=307,tMutex:=304,tIMutex:=302,tPMutex:=335,tPIMutex:=349,tPI32:=351,tUP:=202,tNoCopy:=297,tU32:=257}
theorem vE:Go.Conc.Locks.MuLib prog ZnH:=
 ⟨func288,func289,func295,func296,func301,func303,func304,func306,func302,func307,underlying302,Tryz.runUnderlying302,Tryz.sizeOf302,Tryz.isAgg302,Tryz.zeroValue302,underlying304,Tryz.runUnderlying304,Tryz.sizeOf304,Tryz.isAgg304,Tryz.zeroValue304,underlying335,Tryz.runUnderlying335,Tryz.sizeOf335,Tryz.isAgg335,Tryz.zeroValue335,underlying349,Tryz.runUnderlying349,Tryz.sizeOf349,Tryz.isAgg349,Tryz.zeroValue349,underlying351,Tryz.runUnderlying351,Tryz.sizeOf351,Tryz.isAgg351,Tryz.zeroValue351,underlying202,Tryz.runUnderlying202,Tryz.sizeOf202,Tryz.isAgg202,Tryz.zeroValue202,underlying297,Tryz.runUnderlying297,Tryz.sizeOf297,Tryz.isAgg297,Tryz.zeroValue297,underlying21,Tryz.runUnderlying21,Tryz.sizeOf21,Tryz.isAgg21,Tryz.zeroValue21,G0⟩
def ABBA:List (List UInt8):=[[65],[66],[66],[65]]
def YK (w:World) (b:Nat) (m:Int):Prop:=∃v,w.heap[b]? =some (.cells #[.int .u32 0,.int .i32 m,.int .u32 0,.nilIface,v] 310 (0,0))∧SlN w 0 v (ABBA.map encS)∧v.ownBlock≠some b
theorem Ze2 (bx:Nat) (w:World) (h0:w.cell? ⟨bx,0,none⟩=some (.string ⟨#[65]⟩)) (h1:w.cell? ⟨bx,1,none⟩=some (.string ⟨#[66]⟩)) (h2:w.cell? ⟨bx,2,none⟩=some (.string ⟨#[66]⟩)) (h3:w.cell? ⟨bx,3,none⟩=some (.string ⟨#[65]⟩)):
 Calls prog 241 #[.slice (some ⟨bx,0,none⟩) 4 4] w fun e w'=>∃b,e=.returned (.pointer (some ⟨b,0,none⟩))∧w.heap.size<=b∧YK w' b 0∧Ext w w':=by
 go_enter func241,ntmps241
 go_wp2_with (at_builtin;go_loud (refine NE rfl _ _ 141 9 (.string ⟨#[]⟩) 16 rfl underlying141 wM rfl I0 w.heap.size _ [] rfl (Own.nil _ _ _) bx 0 4 4 (ABBA.map encS) rfl rfl ?_ ?_ I0 (K0 _) ?_))
 ·intro j u hj
  match j with
  |0=>simp[ABBA]at hj;subst hj;exact h0
  |1=>simp[ABBA]at hj;subst hj;exact h1
  |2=>simp[ABBA]at hj;subst hj;exact h2
  |3=>simp[ABBA]at hj;subst hj;exact h3
  |j+4=>simp[ABBA]at hj
 ·intro u hu;simp only[ABBA,I5,B9,V3,D8,E8]at hu;rcases hu with h|h|h|h<;>rw[h]<;>rfl
 intro v5 w5 hown hg hat
 obtain⟨a5,c5,rfl⟩:=hown.sl.form
 rw[show(ABBA.map encS).length=4 from rfl]at*
 have hx5:Ext w w5:=(Ext.refl w).ofGrown hg (by intro k hk;simp[Value.ownBlock]at hk)
 have hlow:=U5 hown
 have hsl:=SlN.ofOwn hown
 clear hg hat hown
 go_wp2
 go_ret
 refine⟨w5.heap.size,rfl,hx5.size,⟨_,heap_alloc_last w5 _,(hsl.mono (O0 _)).ext ((Ext.refl w5).alloc _),fun h=> ?_⟩,hx5.alloc _⟩
 have:=(hlow _ h).2
 omega
def swpB (i:Nat):Nat:=if i=65 then 66 else if i=66 then 65 else i
theorem Zjp (b:Nat) (w:World) (m:Int) (hF:YK w b m):
 Calls prog 276 #[.pointer (some ⟨b,0,none⟩)] w fun e w'=>∃br,e=.returned (.iface 329 (.pointer (some ⟨br,0,none⟩)))∧w.heap.size<=br∧w'.rowIs br 328 256 (fun i=>.int .u8 (swpB i:Int))∧Ext w w':=by
 obtain⟨v,hbk,hsl,hne⟩:=hF
 have c4:w.cell? ⟨b,4,none⟩=some v:=by simp[World.cell?,hbk]
 obtain⟨a0,c0,rfl⟩:=hsl.1.form
 rw[show(ABBA.map encS).length=4 from rfl]at*
 have k0:=hsl.1.at_ (k:=0) I0
 have k1:=hsl.1.at_ (k:=1) I0
 have k2:=hsl.1.at_ (k:=2) I0
 have k3:=hsl.1.at_ (k:=3) I0
 obtain⟨bx,off,rfl,hlt,k0⟩:=k0
 obtain⟨_,_,e1,_,k1⟩:=k1
 obtain⟨_,_,e2,_,k2⟩:=k2
 obtain⟨_,_,e3,_,k3⟩:=k3
 cases e1;cases e2;cases e3
 simp only[ABBA,I5,B9,List.getElem_cons_zero,List.getElem_cons_succ,encS,Y4]at k0 k1 k2 k3
 obtain⟨SA,hSA⟩:∃SA,(⟨#[65]⟩:ByteArray)=SA:=⟨_,rfl⟩
 obtain⟨SB,hSB⟩:∃SB,(⟨#[66]⟩:ByteArray)=SB:=⟨_,rfl⟩
 have hA1:SA.size=1:=by rw[<-hSA];rfl
 have hB1:SB.size=1:=by rw[<-hSB];rfl
 have hA0:SA[0]=65:=by subst hSA;rfl
 have hB0:SB[0]=66:=by subst hSB;rfl
 have k0:w.cell? ⟨bx,off,none⟩=some (.string SA):=by rw[<-hSA];exact k0
 have k1:w.cell? ⟨bx,off+1,none⟩=some (.string SB):=by rw[<-hSB];exact k1
 have k2:w.cell? ⟨bx,off+2,none⟩=some (.string SB):=by rw[<-hSB];exact k2
 have k3:w.cell? ⟨bx,off+3,none⟩=some (.string SA):=by rw[<-hSA];exact k3
 clear hsl hne hbk hSA hSB
 go_enter func276,ntmps276
 go_wp2_with fail
 go_loop [5,4] (fun i a=>a=.bool true∧(i=.int .i64 0∨i=.int .i64 2∨i=.int .i64 4)) (fun i _=>4-(intOf i).toNat)
 case atStart=>exact⟨rfl,.inl rfl⟩
 case round=>obtain⟨rfl,hrel⟩:=hrel;rcases hrel with rfl|rfl|rfl;(·go_wp2;go_round;(case rel=>exact⟨rfl,.inr (.inl rfl)⟩);case measure=>simp[intOf]);(·go_wp2;go_round;(case rel=>exact⟨rfl,.inr (.inr rfl)⟩);case measure=>simp[intOf]);·have hzs:Tryz.zeroCells328.size=256:=B1;have hz1:Tryz.zeroCells328.all (·.oneCell')=true:=B1;have hst:=run_storeCells_new (P:=prog) w 328 Tryz.zeroCells328 Tryz.zeroCells328 (by rw[hzs];kernel_rfl) rfl hz1;have hrow0:(w.alloc (.cells Tryz.zeroCells328 328)).rowIs w.heap.size 328 256 (fun _=>.int .u8 0):=(by have:=NF w Tryz.zeroCells328 328 (fun _=>.int .u8 0) (fun i hi=>by have h:Tryz.zeroCells328=Array.replicate 256 (.int .u8 0):=B1;rw[hzs]at hi;rw[h];simp[hi]);rw[hzs]at this;exact F3);have HROW0:=A0 hrow0;have HK:=A0 (fun(w':World) (hx:Ext w w')=>And.intro ((hx.cell (p:=⟨bx,off,none⟩) hlt).trans k0) (And.intro ((hx.cell (p:=⟨bx,off+1,none⟩) hlt).trans k1) (And.intro ((hx.cell (p:=⟨bx,off+2,none⟩) hlt).trans k2) ((hx.cell (p:=⟨bx,off+3,none⟩) hlt).trans k3))));clear hz1 hzs hrow0 c4 k0 k1 k2 k3;go_wp2_with fail;go_loopw [61] (fun i wr=>∃k:Nat,k<=256∧i=.int .i64 (k:Int)∧wr.rowIs w.heap.size 328 256 (fun j=>if j<k then .int .u8 (j:Int)else .int .u8 0)∧Ext w wr) (fun i _=>256-(intOf i).toNat);(case atStart=>exact⟨0,by omega,rfl,HROW0.out.congr (fun i _=>by simp),Xe⟩);case round=>obtain⟨k,hk,rfl,hrow,hxr⟩:=hrel;by_cases hlk:k<256;(·have hcl:=hrow.cell hlk;have hfz:=hrow.frozen k;have HR:=A0 ((hrow.set k (.int .u8 (k:Int))).congr (g:=fun j=>if j<k+1 then .int .u8 (j:Int)else .int .u8 0) (fun j hj=>by by_cases h1:j=k;(·subst h1;rw[D0 rfl,D0 B0]);·rw[C0 h1];by_cases h2:j<k;(·exact F9);·rw[C0 h2,C0 B0]));have HX:=A0 (hxr.setCell (p:=⟨w.heap.size,k,none⟩) (K0 _) (.int .u8 (k:Int)));clear hrow hxr;go_wp2;go_roundw;(case rel=>exact⟨k+1,by omega,by go_num,HR.out,HX.out⟩);case measure=>exact Q8);·obtain rfl:k=256:=B0;have HID:Hid (wr.rowIs w.heap.size 328 256 (fun j=>.int .u8 (j:Int))):=A0 (hrow.congr (fun i hi=>by rw[D0 hi]));clear hrow hk hlk;go_wp2_with fail;go_loopw [8] (fun i wr=>((i=.int .i64 2∧wr.rowIs w.heap.size 328 256 (fun j=>.int .u8 (j:Int)))∨(i=.int .i64 0∧wr.rowIs w.heap.size 328 256 (fun j=>.int .u8 ((if j=66 then 65 else j:Nat):Int)))∨(i=.int .i64 (-2)∧wr.rowIs w.heap.size 328 256 (fun j=>.int .u8 (swpB j:Int))))∧Ext w wr) (fun i _=>(match i with| .int _ m=>(m+2).toNat|_=>0));(case atStart=>exact⟨.inl ⟨rfl,HID.out⟩,hxr⟩);case round=>clear hxr;obtain⟨hrel,hxr⟩:=hrel;obtain⟨k0,k1,k2,k3⟩:=HK.out _ hxr;rcases hrel with⟨rfl,hrow⟩|⟨rfl,hrow⟩|⟨rfl,hrow⟩;(·have hfz:=hrow.frozen 66;have hcl:=hrow.cell (i:=66) I0;have HR:=A0 ((hrow.set 66 (.int .u8 65)).congr (g:=fun j=>.int .u8 ((if j=66 then 65 else j:Nat):Int)) (fun j hj=>by by_cases h:j=66;(·subst h;rfl);·rw[C0 h,C0 h]));have HX:=A0 (hxr.setCell (p:=⟨w.heap.size,66,none⟩) (K0 _) (.int .u8 65));clear hrow hxr;go_wp2;go_roundw;(case rel=>exact⟨.inr (.inl ⟨rfl,HR.out⟩),HX.out⟩);case measure=>simp);(·have hfz:=hrow.frozen 65;have hcl:=hrow.cell (i:=65) I0;have HR:=A0 ((hrow.set 65 (.int .u8 66)).congr (g:=fun j=>.int .u8 (swpB j:Int)) (fun j hj=>by by_cases h:j=65;(·subst h;rfl);·rw[C0 h];unfold swpB;rw[C0 h]));have HX:=A0 (hxr.setCell (p:=⟨w.heap.size,65,none⟩) (K0 _) (.int .u8 66));clear hrow hxr;go_wp2;go_roundw;(case rel=>exact⟨.inr (.inr ⟨rfl,HR.out⟩),HX.out⟩);case measure=>simp);·clear k0 k1 k2 k3;go_wp2;go_ret;exact⟨w.heap.size,rfl,K0 _,hrow,hxr⟩
theorem ZnI (w:World):(binOp .eql 90 (.slice none 0 0) (.slice none 0 0)).run prog w=.ok (.bool true) w:=by first|kernel_rfl|simp[binOp,go_sem]
theorem ZnJ (b n c:Nat) (w:World):(binOp .eql 90 (.slice (some ⟨b,0,none⟩) n c) (.slice none 0 0)).run prog w=.ok (.bool false) w:=by first|kernel_rfl|simp[binOp,go_sem]
def XS (w:World) (b n:Nat) (f:Nat->Value):Prop:=b<w.heap.size∧∀j,j<n->w.cell? ⟨b,j,none⟩=some (f j)∧w.frozen? ⟨b,j,none⟩=false
theorem XS.set {w:World} {b n:Nat} {f:Nat->Value} (h:XS w b n f) (k:Nat) (u:Value):XS (w.setCell ⟨b,k,none⟩ u) b n (fun j=>if j=k then u else f j):=by
 refine⟨by simpa using h.1,fun j hj=>⟨?_,by simpa using(h.2 j hj).2⟩⟩;by_cases e:j=k;·subst e;show _=some (if j=j then u else f j);rw[D0 rfl];exact World.cell?_setCell_same _ _ _ (h.2 j hj).1
 ·show _=some (if j=k then u else f j);rw[C0 e,VX _ _ _ _ (fun h=>e (by injection h with _ h;exact h.symm))];exact(h.2 j hj).1
theorem Zk8 (s:ByteArray) (w:World):∃cap W,(convert 9 90 (.string s)).run prog w=.ok (.slice (some ⟨w.heap.size,0,none⟩) s.size cap) W∧Ext w W∧XS W w.heap.size s.size (fun j=>encB (s.data.toList.getD j 0)):=by
 refine⟨_,_,Lib.run_convert_string_bytes w 9 90 5 s underlying9 underlying90 underlying5,?_,?_,fun j hj=>⟨?_,?_⟩⟩;·refine⟨rfl,rfl,rfl,by rw[Lib.bytesWorld_size];omega,fun i hi=>Lib.bytesWorld_at_old w _ s i hi⟩
 ·rw[Lib.bytesWorld_size];omega
 ·exact Lib.bytesWorld_cell w _ s j hj
 ·have h1:=Lib.bytesWorld_at_new w 5 s;have h2:j<(Lib.bytesCells w 5 s).size:=(by unfold Lib.bytesCells;simp;have:s.data.size=s.size:=rfl;omega);simp[World.frozen?,h1];omega
def swpU (c:UInt8):UInt8:=if c=65 then 66 else 65
theorem vF (br:Nat) (s:ByteArray) (w:World) (hrow:w.rowIs br 328 256 (fun i=>.int .u8 (swpB i:Int))) (hs:∀c∈s.data.toList,c=65∨c=66) (h0:0<s.size) (hn:s.size<=1000):
 Calls prog 383 #[.pointer (some ⟨br,0,none⟩),.string s] w fun e w'=>e=.returned (.string ⟨(s.data.toList.map swpU).toArray⟩)∧Ext w w':=by
 have HROW:=A0 hrow
 have HS:=A0 hs
 clear hrow hs
 go_enter func383,ntmps383
 have HC:Hid (∀w',Ext w w'->w'.cell? ⟨br,65,none⟩=some (.int .u8 66)∧w'.cell? ⟨br,66,none⟩=some (.int .u8 65)):=A0 (fun w' hx=>
  ⟨(hx.cell (p:=⟨br,65,none⟩) HROW.out.lt).trans (HROW.out.cell (i:=65) I0),(hx.cell (p:=⟨br,66,none⟩) HROW.out.lt).trans (HROW.out.cell (i:=66) I0)⟩)
 have hnil:=ZnI
 have hnn:=ZnJ
 go_wp2_with fail
 go_loopw [6,5] (fun i u wr=>(i=.int .i64 0∧u=.slice none 0 0∧w=wr)∨∃(k cap:Nat),1<=k∧k<=s.size∧i=.int .i64 (k:Int)∧u=.slice (some ⟨w.heap.size,0,none⟩) s.size cap∧XS wr w.heap.size s.size (fun j=>encB (if j<k then swpU (s.data.toList.getD j 0)else s.data.toList.getD j 0))∧Ext w wr) (fun i _ _=>s.size-(intOf i).toNat)
 case atStart=>exact .inl ⟨rfl,rfl,rfl⟩
 case round=>rcases hrel with⟨rfl,rfl,rfl⟩|⟨k,cap,hk1,hk,rfl,rfl,hbuf,hxr⟩;(·obtain⟨k0,k1⟩:=HC.out _ (Ext.refl w);obtain⟨cap,W,hcv,hxW,hbuf⟩:=Zk8 s w;obtain⟨k2,k3⟩:=HC.out _ hxW;have hcl:=(hbuf.2 0 h0).1;have hfz:=(hbuf.2 0 h0).2;have HG:Hid (s.data.toList.getD 0 0=s[0]):=A0 vG;have HR:Hid (∀d:UInt8,swpU s[0]=d->XS (W.setCell ⟨w.heap.size,0,none⟩ (.int .u8 (d.toNat:Int))) w.heap.size s.size (fun j=>encB (if j<1 then swpU (s.data.toList.getD j 0)else s.data.toList.getD j 0))):=A0 (fun d hd=>by have h1:=hbuf.set 0 (.int .u8 (d.toNat:Int));refine⟨h1.1,fun j hj=>⟨(h1.2 j hj).1.trans ?_,(h1.2 j hj).2⟩⟩;dsimp only;by_cases e:j=0;(·subst e;rw[D0 rfl,D0 B0,HG.out,hd];rfl);·rw[C0 e,C0 B0]);have HX:=A0 (fun u=>hxW.setCell (p:=⟨w.heap.size,0,none⟩) (K0 _) u);have hc:=HS.out s[0] (Zn s 0 h0);clear hbuf;rcases hc with hc|hc;(·have HR1:=A0 (HR.out 66 YL);have hcn:s[0].toNat=65:=YL;exact vH);·have HR1:=A0 (HR.out 65 YL);have hcn:s[0].toNat=66:=YL;exact vH);·by_cases hlt:k<s.size;(·obtain⟨k0,k1⟩:=HC.out _ hxr;have hcl:=(hbuf.2 k hlt).1;have hfz:=(hbuf.2 k hlt).2;have HG:Hid (s.data.toList.getD k 0=s[k]):=A0 vI;have HR:Hid (∀d:UInt8,swpU s[k]=d->XS (wr.setCell ⟨w.heap.size,k,none⟩ (.int .u8 (d.toNat:Int))) w.heap.size s.size (fun j=>encB (if j<k+1 then swpU (s.data.toList.getD j 0)else s.data.toList.getD j 0))):=A0 (fun d hd=>by have h1:=hbuf.set k (.int .u8 (d.toNat:Int));refine⟨h1.1,fun j hj=>⟨(h1.2 j hj).1.trans ?_,(h1.2 j hj).2⟩⟩;dsimp only;by_cases e:j=k;(·subst e;rw[D0 rfl,D0 B0,HG.out,hd];rfl);·rw[C0 e];by_cases h2:j<k;(·exact F9);·rw[C0 h2,C0 B0]);have HX:=A0 (fun u=>hxr.setCell (p:=⟨w.heap.size,k,none⟩) (K0 _) u);have hc:=HS.out s[k] (Zn s k hlt);clear hbuf hxr;rcases hc with hc|hc;(·have HR1:=A0 (HR.out 66 YL);have hcn:s[k].toNat=65:=YL;exact vJ);·have HR1:=A0 (HR.out 65 YL);have hcn:s[k].toNat=66:=YL;exact vJ);·obtain rfl:k=s.size:=B0;have hsl:Sl wr (.slice (some ⟨w.heap.size,0,none⟩) s.size cap) ((s.data.toList.map swpU).map encB):=(by have hlen:((s.data.toList.map swpU).map encB).length=s.size:=(by rw[J0,J0,Zd]);refine .inr ⟨_,0,cap,by rw[hlen],hbuf.1,fun i hi=> ?_⟩;rw[hlen]at hi;rw[T4,(hbuf.2 i hi).1];dsimp only;rw[D0 hi,J2,J2,U0,M0 (by rw[Zd];exact hi)];rfl);have hcv:=Zr hsl;clear hlt hk hbuf hsl;go_wp2;go_ret;exact⟨rfl,hxr⟩
theorem Zp {w:World} {b i:Nat} {cs:Array Value} {t:TypeId} {fr:Nat×Nat} {u:Value} (h:w.heap[b]? =some (.cells cs t fr)):(w.setCell ⟨b,i,none⟩ u).heap[b]? =some (.cells (cs.setIfInBounds i u) t fr):=by simp[World.setCell,VY,h]
theorem ZI (w:World) (b i:Nat) (u:Value):w.grownBy (w.setCell ⟨b,i,none⟩ u) (some b):=by refine⟨rfl,rfl,rfl,by simp,fun k hk hne=> ?_⟩;have:k≠b:=fun e=>hne (by rw[e]);simp[World.setCell,VY,Ne.symm this]
theorem Zw {w:World} {b i:Nat} {cs:Array Value} {t:TypeId} {x:Value} (h:w.heap[b]? =some (.cells cs t (0,0))) (hx:cs[i]? =some x):w.cell? ⟨b,i,none⟩=some x:=by simp[World.cell?,h,hx]
theorem ZG {w:World} {b i:Nat} {cs:Array Value} {t:TypeId} (h:w.heap[b]? =some (.cells cs t (0,0))):w.frozen? ⟨b,i,none⟩=false:=by simp[World.frozen?,h]
def I7 (w:World) (b:Nat) (d m:Int) (i v:Value):Prop:=w.heap[b]? =some (.cells #[.int .u32 d,.int .i32 m,.int .u32 0,i,v] 310 (0,0))
def repI (br:Nat):Value:=.iface 329 (.pointer (some ⟨br,0,none⟩))
theorem Zf8 (b:Nat) (w:World) (m:Int) (hF:YK w b m):
 Calls prog 269 #[.pointer (some ⟨b,0,none⟩)] w fun e w'=>e=.returned (.tuple #[])∧∃br,w.heap.size<=br∧w'.rowIs br 328 256 (fun i=>.int .u8 (swpB i:Int))∧I7 w' b 0 m (repI br) (.slice none 0 0)∧w.grownBy w' (some b):=by
 have HB:=A0 (Zjp b w m hF)
 obtain⟨v,hbk,_,_⟩:=hF
 have hlt:b<w.heap.size:=(O3.1 hbk).1
 go_enter func269,ntmps269
 go_wp2_with fail
 refine HB.out.mono ?_
 rintro e w1 ⟨br,rfl,hbr,hrow,hx1⟩
 have hbk1:w1.heap[b]? =_:=(hx1.block b hlt).trans hbk
 have c3:=Zw hbk1 (i:=3) rfl
 have c4:=Zw hbk1 (i:=4) rfl
 have f3:=ZG hbk1 (i:=3)
 have f4:=ZG hbk1 (i:=4)
 have h1:=Zp (i:=3) (u:=repI br) hbk1
 have h2:=Zp (i:=4) (u:=.slice none 0 0) h1
 have hg:w.grownBy ((w1.setCell ⟨b,3,none⟩ (repI br)).setCell ⟨b,4,none⟩ (.slice none 0 0)) (some b):=by have g1:=ZI w1 b 3 (repI br);have g2:=ZI (w1.setCell ⟨b,3,none⟩ (repI br)) b 4 (.slice none 0 0);refine⟨hx1.os,hx1.tape,hx1.output,by simpa using hx1.size,fun k hk hne=> ?_⟩;have hk1:k<w1.heap.size:=G2 hk hx1.size;rw[g2.block k (by simpa using hk1) hne,g1.block k hk1 hne];exact hx1.block k hk
 have hrw:((w1.setCell ⟨b,3,none⟩ (repI br)).setCell ⟨b,4,none⟩ (.slice none 0 0)).rowIs br 328 256 (fun i=>.int .u8 (swpB i:Int)):=by refine hrow.of_block ?_;have g1:=ZI w1 b 3 (repI br);have g2:=ZI (w1.setCell ⟨b,3,none⟩ (repI br)) b 4 (.slice none 0 0);have hne:some br≠some b:=S0;rw[g2.block br (by simpa using hrow.lt) hne,g1.block br hrow.lt hne]
 have H:=A0 (And.intro h2 (And.intro hg hrw))
 clear hbk hbk1 h1 h2 hg hrw hrow hx1
 unfold repI at H
 go_wp2
 go_end0
 exact⟨rfl,br,hbr,H.out.2.2,H.out.1,H.out.2.1⟩
theorem Zfd (a:Addr) (x:Value) (u:FrameMode) (w:World) (hc:w.cell? a=some x) (hz:w.frozen? a=false):
 CallsD prog 290 #[.pointer (some a),.bool true] u w fun e u' w'=>u'=u∧(e=.returned (.tuple #[])∧w'=w.drew.setCell a (.int .u32 1)):=by
 have hc':w.drew.cell? a=some x:=by go_simp
 have hz':w.drew.frozen? a=false:=by go_simp
 have hst:=run_call_store (P:=prog) func297 G0 G0 G0 G0 (k:=.u32) (y:=1) hc' hz'
 go_enter_d func290,ntmps290
 go_wp2
 go_region_calls
 all_goals(go_end0;exact⟨rfl,rfl⟩)
theorem FB (a:Addr) (x:Int) (hx:x=0∨x=1) (w:World) (hc:w.cell? a=some (.int .u32 x)):
 Calls prog 274 #[.pointer (some a)] w fun e w'=>e=.returned (.bool (x !=0))∧w=w':=by
 have hl:=run_call_load (P:=prog) func287 G0 G0 G0 .u32 G0 (w:=w) (a:=a) (x:=x) hc
 rcases hx with rfl|rfl
 ·go_enter func274,ntmps274;exact C6
 ·go_enter func274,ntmps274;exact C6
theorem Ziw (b:Nat) (w:World) (hF:YK w b 0):
 Calls prog 275 #[.pointer (some ⟨b,0,none⟩),.func (.func 269) #[.pointer (some ⟨b,0,none⟩)] #[]] w fun e w'=>e=.returned (.tuple #[])∧∃br,w.heap.size<=br∧w'.rowIs br 328 256 (fun i=>.int .u8 (swpB i:Int))∧I7 w' b 1 0 (repI br) (.slice none 0 0)∧w.grownBy w' (some b):=by
 obtain⟨v,hbk,hsl,hne⟩:=hF
 have hlt:b<w.heap.size:=(O3.1 hbk).1
 have c1:=Zw hbk (i:=1) rfl
 have f1:=ZG hbk (i:=1)
 have h1:=Zp (i:=1) (u:=.int .i32 1) hbk
 have g1:=ZI w b 1 (.int .i32 1)
 have hF1:YK (w.setCell ⟨b,1,none⟩ (.int .i32 1)) b 1:=by refine⟨v,h1,?_,hne⟩;exact(GZ.grow (v:=.slice (some ⟨b,0,none⟩) 1 1) (v':=.slice (some ⟨b,0,none⟩) 1 1) (by simpa[Value.ownBlock]using g1) w.heap.size (K0 _) (.inl rfl) 0 v _ hsl (.inr (by simp[Value.ownBlock];exact fun e=>hne e.symm))).1
 have HB:=A0 (Zf8 b _ 1 hF1)
 have HL:=A0 (FB ⟨b,0,none⟩ 0 (.inl rfl) _ (Zw h1 (i:=0) rfl))
 have hnot:∀(x:Bool) (w:World),(Op.unary .not (.bool x)).run prog w=.ok (.bool (!x)) w:=fun _ _=>rfl
 go_enter_defers func275,ntmps275
 go_wp2_with (go_at_call 288;refine(lock_free vE ⟨b,1,none⟩ _ c1 f1).mono ?_;rintro e w' ⟨rfl,rfl⟩)
 refine HL.out.mono ?_
 rintro e w1 ⟨rfl,rfl⟩
 go_wp2_with fail
 refine HB.out.mono ?_
 rintro e w2 ⟨rfl,br,hbr,hrow,hrep,hg⟩
 have q0:=Zw hrep (i:=0) rfl
 have q1:=Zw hrep (i:=1) rfl
 have z0:=ZG hrep (i:=0)
 have z1:=ZG hrep (i:=1)
 have hrep2:=Zp (i:=0) (u:=.int .u32 1) (show w2.drew.heap[b]? =_ from hrep)
 have q1':=Zw hrep2 (i:=1) rfl
 have z1':=ZG hrep2 (i:=1)
 have hrep3:=Zp (i:=1) (u:=.int .i32 0) hrep2
 have hsz:(w.setCell ⟨b,1,none⟩ (.int .i32 1)).heap.size=w.heap.size:=by simp
 rw[hsz]at hbr
 have g2:=ZI w2.drew b 0 (.int .u32 1)
 have g3:=ZI (w2.drew.setCell ⟨b,0,none⟩ (.int .u32 1)) b 1 (.int .i32 0)
 have hrw:((w2.drew.setCell ⟨b,0,none⟩ (.int .u32 1)).setCell ⟨b,1,none⟩ (.int .i32 0)).rowIs br 328 256 (fun i=>.int .u8 (swpB i:Int)):=by refine hrow.of_block ?_;have hne:some br≠some b:=S0;rw[g3.block br (by simpa using hrow.lt) hne,g2.block br hrow.lt hne];rfl
 have hgg:w.grownBy ((w2.drew.setCell ⟨b,0,none⟩ (.int .u32 1)).setCell ⟨b,1,none⟩ (.int .i32 0)) (some b):=by have hw2:w.heap.size<=w2.heap.size:=(by have:=hg.size;rw[hsz]at this;exact F3);refine⟨hg.os.trans g1.os,hg.tape.trans g1.tape,hg.output.trans g1.output,by simpa using hw2,fun k hk hne=> ?_⟩;have hk2:k<w2.heap.size:=G2 hk hw2;rw[g3.block k (by simpa using hk2) hne,g2.block k hk2 hne];exact(hg.block k (by rw[hsz];exact hk) hne).trans (g1.block k hk hne)
 have H:=A0 (And.intro hrep3 (And.intro hgg hrw))
 go_wp2
 refine leaves_cons (f:=290) (args:= #[.pointer (some ⟨b,0,none⟩),.bool true]) L0 (by simp[go_sem]) ?_
 refine(Zfd ⟨b,0,none⟩ (.int .u32 0) .returning _ q0 z0).mono ?_
 rintro e u' w'' ⟨rfl,rfl,rfl⟩
 refine leaves_cons (f:=289) (args:= #[.pointer (some ⟨b,1,none⟩)]) (by simp[settle]) (by simp[go_sem]) ?_
 refine(unlock_deferred vE ⟨b,1,none⟩ _ _ q1' z1').mono ?_
 rintro e u' w'' ⟨rfl,rfl,rfl⟩
 exact⟨_,NG rfl _ _ _,rfl,br,hbr,H.out.2.2,H.out.1,H.out.2.1⟩
theorem ZkM (b:Nat) (w:World) (hF:YK w b 0):
 Calls prog 268 #[.pointer (some ⟨b,0,none⟩),.func (.func 269) #[.pointer (some ⟨b,0,none⟩)] #[]] w fun e w'=>e=.returned (.tuple #[])∧∃br,w.heap.size<=br∧w'.rowIs br 328 256 (fun i=>.int .u8 (swpB i:Int))∧I7 w' b 1 0 (repI br) (.slice none 0 0)∧w.grownBy w' (some b):=by
 have HS:=A0 (Ziw b w hF)
 obtain⟨v,hbk,_,_⟩:=hF
 have HL:=A0 (FB ⟨b,0,none⟩ 0 (.inl rfl) w (Zw hbk (i:=0) rfl))
 clear hbk
 go_enter func268,ntmps268
 go_wp2_with fail
 refine HL.out.mono ?_
 rintro e w1 ⟨rfl,rfl⟩
 go_wp2_with fail
 refine HS.out.mono ?_
 rintro e w2 ⟨rfl,hh⟩
 go_wp2
 go_end0
 exact⟨rfl,hh⟩
theorem ZkL (b br:Nat) (f:Value) (w:World) (hR:I7 w b 1 0 (repI br) (.slice none 0 0)):
 Calls prog 268 #[.pointer (some ⟨b,0,none⟩),f] w fun e w'=>e=.returned (.tuple #[])∧w=w':=by
 have HL:=A0 (FB ⟨b,0,none⟩ 1 (.inr rfl) w (Zw hR (i:=0) rfl))
 clear hR
 go_enter func268,ntmps268
 go_wp2_with fail
 refine HL.out.mono ?_
 rintro e w1 ⟨rfl,rfl⟩
 go_wp2
 go_end0
 exact⟨rfl,rfl⟩
theorem vK (v:Value) (w:World):(method 505 329 v "Replace").run prog w=.ok (383,v) w:=B1
theorem ZfN (b:Nat) (s:ByteArray) (w:World) (hF:YK w b 0) (hs:∀c∈s.data.toList,c=65∨c=66) (h0:0<s.size) (hn:s.size<=1000):
 Calls prog 242 #[.pointer (some ⟨b,0,none⟩),.string s] w fun e w'=>e=.returned (.string ⟨(s.data.toList.map swpU).toArray⟩)∧∃br,w.heap.size<=br∧w'.rowIs br 328 256 (fun i=>.int .u8 (swpB i:Int))∧I7 w' b 1 0 (repI br) (.slice none 0 0)∧w.grownBy w' (some b):=by
 have HD:=A0 (ZkM b w hF)
 have HB:=A0 (fun br w' hrow=>vF br s w' hrow hs h0 hn)
 clear hs hF
 go_enter func242,ntmps242
 go_wp2_with fail
 refine HD.out.mono ?_
 rintro e w1 ⟨rfl,br,hbr,hrow,hrep,hg⟩
 have c3:=Zw hrep (i:=3) rfl
 unfold repI at c3
 have hm:=vK
 go_wp2_with fail
 refine(HB.out br w1 hrow).mono ?_
 rintro e w2 ⟨rfl,hx2⟩
 have hrow2:=Ext.rowX hrow hx2
 have hrep2:I7 w2 b 1 0 (repI br) (.slice none 0 0):=(hx2.block b (O3.1 hrep).1).trans hrep
 have hg2:w.grownBy w2 (some b):=⟨hx2.os.trans hg.os,hx2.tape.trans hg.tape,hx2.output.trans hg.output,B4 hg.size hx2.size,fun k hk hne=>(hx2.block k (G2 hk hg.size)).trans (hg.block k hk hne)⟩
 clear hrow hrep hg
 go_wp2
 go_ret
 exact⟨rfl,br,hbr,hrow2,hrep2,hg2⟩
theorem ZfM (b br:Nat) (s:ByteArray) (w:World) (hrow:w.rowIs br 328 256 (fun i=>.int .u8 (swpB i:Int))) (hrep:I7 w b 1 0 (repI br) (.slice none 0 0)) (hs:∀c∈s.data.toList,c=65∨c=66) (h0:0<s.size) (hn:s.size<=1000):
 Calls prog 242 #[.pointer (some ⟨b,0,none⟩),.string s] w fun e w'=>e=.returned (.string ⟨(s.data.toList.map swpU).toArray⟩)∧Ext w w':=by
 have HD:=A0 (fun f=>ZkL b br f w hrep)
 have HB:=A0 (vF br s w hrow hs h0 hn)
 have c3:=Zw hrep (i:=3) rfl
 unfold repI at c3
 have hm:=vK
 clear hs hrow hrep
 go_enter func242,ntmps242
 go_wp2_with fail
 refine(HD.out _).mono ?_
 rintro e w1 ⟨rfl,rfl⟩
 go_wp2_with fail
 refine HB.out.mono ?_
 rintro e w2 ⟨rfl,hx2⟩
 go_wp2
 go_ret
 exact⟨rfl,hx2⟩
end
section
open Go.RowKit
def shC (q:List Hp.Sh):List Value:=q.flatMap fun x=>[.int .i64 x.ix,.int .i64 x.md,.int .i64 x.ct]
theorem FE:∀(q:List Hp.Sh) (i:Nat) (x:Hp.Sh),q[i]? =some x->(shC q)[i*3]? =some (.int .i64 x.ix)∧(shC q)[i*3+1]? =some (.int .i64 x.md)∧(shC q)[i*3+2]? =some (.int .i64 x.ct):=by
 intro q
 induction q with
 |nil=>intro i x h;simp at h
 |cons y q ih=>
  intro i x h
  cases i with
  |zero=>simp only[B3,I2]at h;subst h;exact⟨rfl,rfl,rfl⟩
  |succ i=>rw[D5]at h;have:=ih i x h;have e1:(i+1)*3=i*3+1+1+1:=B0;rw[e1];simp only[shC,F8,J3,P5,D5]at this⊢;exact F3
theorem FF:∀(q:List Hp.Sh) (i:Nat) (x:Hp.Sh),shC (q.set i x)=(((shC q).set (i*3) (.int .i64 x.ix)).set (i*3+1) (.int .i64 x.md)).set (i*3+2) (.int .i64 x.ct):=by
 intro q
 induction q with
 |nil=>intro i x;rfl
 |cons y q ih=>
  intro i x
  cases i with
  |zero=>rfl
  |succ i=>have:=ih i x;have e1:(i+1)*3=i*3+1+1+1:=B0;rw[e1,N1];simp only[shC,F8,J3,P5,N1]at this⊢;rw[this]
theorem NN {α:Type} {l:List α} {i:Nat} {x:α} (h:l[i]? =some x):l.set i x=l:=by
 apply XQ;intro k;by_cases e:i=k;·subst e;rw[YH (I1.1 h).1,h]
 ·rw[YI e]
def QAt (w:World) (g:Nat) (q:List Hp.Sh):Prop:=w.heap[g]? =some (.cells (shC q).toArray 250 (0,0))
theorem QAt.at_ {w:World} {g:Nat} {q:List Hp.Sh} (h:QAt w g q) {i:Nat} {x:Hp.Sh} (hi:q[i]? =some x):
 w.cell? ⟨g,i*3,none⟩=some (.int .i64 x.ix)∧w.cell? ⟨g,i*3+1,none⟩=some (.int .i64 x.md)∧w.cell? ⟨g,i*3+2,none⟩=some (.int .i64 x.ct):=by
 obtain⟨h1,h2,h3⟩:=FE q i x hi
 exact⟨Zw h YM,Zw h D9,Zw h (by simpa using h3)⟩
theorem QAt.frz {w:World} {g:Nat} {q:List Hp.Sh} (h:QAt w g q) (i:Nat):w.frozen? ⟨g,i,none⟩=false:=ZG h
theorem QAt.lt {w:World} {g:Nat} {q:List Hp.Sh} (h:QAt w g q):g<w.heap.size:=(O3.1 h).1
theorem QAt.set {w:World} {g:Nat} {q:List Hp.Sh} (h:QAt w g q) (i:Nat) (x:Hp.Sh):QAt (((w.setCell ⟨g,i*3,none⟩ (.int .i64 x.ix)).setCell ⟨g,i*3+1,none⟩ (.int .i64 x.md)).setCell ⟨g,i*3+2,none⟩ (.int .i64 x.ct)) g (q.set i x):=by unfold QAt;rw[FF];have:=Zp (i:=i*3+2) (u:=.int .i64 x.ct) (Zp (i:=i*3+1) (u:=.int .i64 x.md) (Zp (i:=i*3) (u:=.int .i64 x.ix) h));rw[this];simp
theorem QAt.setMd {w:World} {g:Nat} {q:List Hp.Sh} (h:QAt w g q) {i:Nat} {x:Hp.Sh} (hi:q[i]? =some x) (m:Int):QAt (w.setCell ⟨g,i*3+1,none⟩ (.int .i64 m)) g (q.set i ⟨x.ix,m,x.ct⟩):=by unfold QAt;obtain⟨h1,_,h3⟩:=FE q i x hi;rw[FF,Zp (i:=i*3+1) (u:=.int .i64 m) h];dsimp only;rw[NN h1,List.set_comm _ _ B0,NN h3];simp
theorem QAt.setCt {w:World} {g:Nat} {q:List Hp.Sh} (h:QAt w g q) {i:Nat} {x:Hp.Sh} (hi:q[i]? =some x) (m:Int):QAt (w.setCell ⟨g,i*3+2,none⟩ (.int .i64 m)) g (q.set i ⟨x.ix,x.md,m⟩):=by unfold QAt;obtain⟨h1,h2,_⟩:=FE q i x hi;rw[FF,Zp (i:=i*3+2) (u:=.int .i64 m) h];dsimp only;rw[NN h1,NN h2];simp
theorem GB.setRow {g:Nat} {a w:World} (h:GB (some g) a w) (i:Nat) (u:Value):GB (some g) a (w.setCell ⟨g,i,none⟩ u):=h.trans (ZI w g i u)
theorem QAt.drew {w:World} {g:Nat} {q:List Hp.Sh} (h:QAt w g q):QAt w.drew g q:=h
theorem QAt.on {w w':World} {g:Nat} {q:List Hp.Sh} (h:QAt w g q) (hx:Ext w w'):QAt w' g q:=by unfold QAt;rw[hx.block g h.lt];exact h
theorem kC (a:Option Addr) (n c:Nat) (w:World):Calls prog 371 #[.slice a n c] w fun e w'=>e=.returned (.int .i64 (n:Int))∧Ext w w':=by go_enter func371,ntmps371;go_wp2;go_ret;exact G8
theorem NO (g n i j:Nat) (q:List Hp.Sh) (x y:Hp.Sh) (w:World) (hq:QAt w g q) (hn:q.length=n) (hi:q[i]? =some x) (hj:q[j]? =some y) (hs:n<=1000000):
 Calls prog 372 #[.slice (some ⟨g,0,none⟩) n n,.int .i64 (i:Int),.int .i64 (j:Int)] w fun e w'=>e=.returned (.bool (Hp.lessS x y))∧Ext w w':=by
 obtain⟨c0,c1,c2⟩:=hq.at_ hi
 obtain⟨d0,d1,d2⟩:=hq.at_ hj
 have hil:=(I1.1 hi).1
 have hjl:=(I1.1 hj).1
 rw[hn]at hil hjl
 have hiI:(i:Int)<(n:Int):=by omega
 have hjI:(j:Int)<(n:Int):=by omega
 unfold Hp.lessS
 obtain⟨x0,x1,x2⟩:=x
 obtain⟨y0,y1,y2⟩:=y
 dsimp only at c0 c1 c2 d0 d1 d2⊢
 clear hq hn hi hj c1 d1
 by_cases hc:x2=y2
 ·rw[D0 hc];have z1:(x2 !=y2)=false:=(by simp[hc]);have z2:decide (x2=y2)=true:=V0 hc;exact kD
 ·rw[C0 hc];have z1:(x2 !=y2)=true:=(by simp[hc]);have z2:decide (x2=y2)=false:=X0 hc;exact kD
theorem FG (g n i j:Nat) (q:List Hp.Sh) (x y:Hp.Sh) (w:World) (hq:QAt w g q) (hn:q.length=n) (hi:q[i]? =some x) (hj:q[j]? =some y) (hij:i≠j) (hs:n<=1000000):
 Calls prog 373 #[.slice (some ⟨g,0,none⟩) n n,.int .i64 (i:Int),.int .i64 (j:Int)] w fun e w'=>e=.returned (.tuple #[])∧QAt w' g (Hp.swap q i j)∧GB (some g) w w':=by
 obtain⟨c0,c1,c2⟩:=hq.at_ hi
 obtain⟨d0,d1,d2⟩:=hq.at_ hj
 have hil:=(I1.1 hi).1
 have hjl:=(I1.1 hj).1
 rw[hn]at hil hjl
 have hiI:(i:Int)<(n:Int):=by omega
 have hjI:(j:Int)<(n:Int):=by omega
 have f0:=hq.frz (i*3)
 have f1:=hq.frz (i*3+1)
 have f2:=hq.frz (i*3+2)
 have g0:=hq.frz (j*3)
 have g1:=hq.frz (j*3+1)
 have g2:=hq.frz (j*3+2)
 go_enter func373,ntmps373
 go_region
 go_end0
 have h1:=(hq.set i y).set j x
 have e:(q.set i y).set j x=Hp.swap q i j:=by unfold Hp.swap;rw[hi,hj]
 rw[e]at h1
 refine⟨rfl,?_,?_⟩
 ·exact h1.drew
 ·refine GB.drew ?_;(iterate 6 refine GB.setRow ?_ _ _);exact GB.refl w
theorem GB.cell {row:Option Nat} {a w:World} (h:GB row a w) {p:Addr} (hp:p.block<a.heap.size) (hne:row≠some p.block):w.cell? p=a.cell? p:=by have:=World.grownBy.block h p.block hp (fun e=>hne e.symm);unfold World.cell?;rw[this]
theorem FH {w:World} {b:Nat} {a:Option Addr} {n c:Nat} (h:w.cell? ⟨b,0,none⟩=some (.slice a n c)):(loadVar 248 ⟨b,0,none⟩).run prog w=.ok (.slice a n c) w:=by simp[loadVar,go_sem,h]
theorem kE {w:World} {b:Nat} {a:Option Addr} {n c:Nat} (h:w.cell? ⟨b,0,none⟩=some (.slice a n c)):(method 505 252 (.pointer (some ⟨b,0,none⟩)) "Len").run prog w=.ok (371,.slice a n c) w:=by
 have h0:(method 505 252 (.pointer (some ⟨b,0,none⟩)) "Len").run prog w=(do let r<-loadVar 248 ⟨b,0,none⟩;pure (371,r):Sem (FuncId×Value)).run prog w:=B1
 have h1:(do let r<-loadVar 248 ⟨b,0,none⟩;pure (371,r):Sem (FuncId×Value)).run prog w=((loadVar 248 ⟨b,0,none⟩).run prog w).andThen (fun s w'=>.ok (371,s) w'):=by simp[go_sem]
 rw[h0,h1,FH h];rfl
theorem NP {w:World} {b:Nat} {a:Option Addr} {n c:Nat} (h:w.cell? ⟨b,0,none⟩=some (.slice a n c)):(method 505 252 (.pointer (some ⟨b,0,none⟩)) "Less").run prog w=.ok (372,.slice a n c) w:=by
 have h0:(method 505 252 (.pointer (some ⟨b,0,none⟩)) "Less").run prog w=(do let r<-loadVar 248 ⟨b,0,none⟩;pure (372,r):Sem (FuncId×Value)).run prog w:=B1
 have h1:(do let r<-loadVar 248 ⟨b,0,none⟩;pure (372,r):Sem (FuncId×Value)).run prog w=((loadVar 248 ⟨b,0,none⟩).run prog w).andThen (fun s w'=>.ok (372,s) w'):=by simp[go_sem]
 rw[h0,h1,FH h];rfl
theorem FI {w:World} {b:Nat} {a:Option Addr} {n c:Nat} (h:w.cell? ⟨b,0,none⟩=some (.slice a n c)):(method 505 252 (.pointer (some ⟨b,0,none⟩)) "Swap").run prog w=.ok (373,.slice a n c) w:=by
 have h0:(method 505 252 (.pointer (some ⟨b,0,none⟩)) "Swap").run prog w=(do let r<-loadVar 248 ⟨b,0,none⟩;pure (373,r):Sem (FuncId×Value)).run prog w:=B1
 have h1:(do let r<-loadVar 248 ⟨b,0,none⟩;pure (373,r):Sem (FuncId×Value)).run prog w=((loadVar 248 ⟨b,0,none⟩).run prog w).andThen (fun s w'=>.ok (373,s) w'):=by simp[go_sem]
 rw[h0,h1,FH h];rfl
structure QB (w:World) (qb g n:Nat) (q:List Hp.Sh):Prop where
 cell:w.cell? ⟨qb,0,none⟩=some (.slice (some ⟨g,0,none⟩) n n)
 lt:qb<w.heap.size
 ne:qb≠g
 at_:QAt w g q
 len:q.length=n
theorem QB.on {w w':World} {qb g n:Nat} {q:List Hp.Sh} (h:QB w qb g n q) (hx:Ext w w'):QB w' qb g n q:=
 ⟨(hx.cell (p:=⟨qb,0,none⟩) h.lt).trans h.cell,G2 h.lt hx.size,h.ne,h.at_.on hx,h.len⟩
theorem QB.turn {w w':World} {qb g n:Nat} {q q':List Hp.Sh} (h:QB w qb g n q) (hg:GB (some g) w w') (hq:QAt w' g q') (hl:q'.length=q.length):QB w' qb g n q':=
 ⟨(hg.cell (p:=⟨qb,0,none⟩) h.lt (fun e=>h.ne (by injection e with e;exact e.symm))).trans h.cell,G2 h.lt hg.size,h.ne,hq,hl.trans h.len⟩
def DnE (qb g n k0:Nat) (q:List Hp.Sh) (w:World) (w':World):Prop:=∃q',QB w' qb g n q'∧Hp.Heap Hp.lessS q' k0∧q'.Perm q∧GB (some g) w w'
theorem kF (qb g n i0:Nat) (q:List Hp.Sh) (w:World) (hq:QB w qb g n q) (hi:i0<=n) (hn:n<=1000000) (hh:Hp.Near Hp.lessS q i0 i0):
 Calls prog 262 #[.iface 252 (.pointer (some ⟨qb,0,none⟩)),.int .i64 (i0:Int),.int .i64 (n:Int)] w fun e w'=>(∃b,e=.returned (.bool b))∧DnE qb g n i0 q w w':=by
 have HQ:=A0 hq
 have HH:=A0 hh
 clear hq hh
 go_enter func262,ntmps262
 go_wp2_with fail
 go_loopw [7] (fun t wr=>∃(i:Nat) (q':List Hp.Sh),i0<=i∧i<=n∧t=.int .i64 (i:Int)∧Hid (QB wr qb g n q')∧Hid (Hp.Near Hp.lessS q' i0 i)∧Hid (q'.Perm q)∧Hid (GB (some g) w wr)) (fun t _=>n-(intOf t).toNat)
 case atStart=>exact⟨i0,q,K0 _,hi,rfl,HQ,HH,A0 (List.Perm.refl _),A0 (GB.refl _)⟩
 case round=>
 clear HQ HH hi
 obtain⟨i,q',hi0,hin,rfl,HQ,HH,HP,HG⟩:=hrel
 by_cases hj:2*i+1<n
 ·have hjI:¬(n:Int)<=2*(i:Int)+1:=B0;have hj0:¬2*(i:Int)+1<0:=B0;obtain⟨x,hxi⟩:∃x,q'[i]? =some x:=⟨_,M0 UA⟩;obtain⟨y1,hy1⟩:∃y,q'[2*i+1]? =some y:=⟨_,M0 UA⟩;have HXI:=A0 hxi;have HY1:=A0 hy1;clear hxi hy1;by_cases hj2:2*i+2<n
  ·have hj2I:2*(i:Int)+1+1<(n:Int):=by omega
   obtain⟨y2,hy2⟩:∃y,q'[2*i+2]? =some y:=⟨_,M0 UA⟩
   have HY2:=A0 hy2
   have HL1:=A0 (fun w' (h:QB w' qb g n q')=>by have:=NO g n (2*i+2) (2*i+1) q' y2 y1 w' h.at_ h.len HY2.out HY1.out B0;rw[show((2*i+2:Nat):Int)=2*(i:Int)+1+1 by omega,show((2*i+1:Nat):Int)=2*(i:Int)+1 by omega]at this;exact this)
   have hm1:=NP HQ.out.cell
   obtain⟨b1,hb1⟩:∃b1,b1=Hp.lessS y2 y1:=⟨_,rfl⟩
   rw[<-hb1]at HL1
   have HB1:=A0 hb1
   clear hb1 hy2
   go_wp2_with fail
   refine(HL1.out _ HQ.out).mono ?_
   rintro e w2 ⟨rfl,hx2⟩
   have HQ2:=A0 (HQ.out.on hx2)
   have HX2:=A0 hx2
   clear hx2 hm1
   cases b1 with
   |false=>
    have HMIN:Hid (∀c,(c=2*i+1∨c=2*i+2)->∀z,q'[c]? =some z->Hp.lessS z y1=false):=A0 (fun c hc z hz=>by rcases hc with rfl|rfl;(·have e:=HY1.out;exact FK);·have e:=HY2.out;rw[hz]at e;injection e with e;subst e;exact HB1.out.symm
    )
    have HL2:=A0 (fun w' (h:QB w' qb g n q')=>by have:=NO g n (2*i+1) i q' y1 x w' h.at_ h.len HY1.out HXI.out B0;rw[show((2*i+1:Nat):Int)=2*(i:Int)+1 by omega]at this;exact this)
    have HS2:=A0 (fun w' (h:QB w' qb g n q')=>by have:=FG g n i (2*i+1) q' x y1 w' h.at_ h.len HXI.out HY1.out B0 B0;rw[show((2*i+1:Nat):Int)=2*(i:Int)+1 by omega]at this;exact this)
    have hm2:=NP HQ2.out.cell
    obtain⟨b2,hb2⟩:∃b2,b2=Hp.lessS y1 x:=⟨_,rfl⟩
    rw[<-hb2]at HL2
    have HB2:=A0 hb2
    clear hb2
    go_wp2_with fail
    refine(HL2.out _ HQ2.out).mono ?_
    rintro e w3 ⟨rfl,hx3⟩
    have HQ3:=A0 (HQ2.out.on hx3)
    have HX3:=A0 (HX2.out.trans hx3)
    have hm3:=FI HQ3.out.cell
    clear hx3 hm2
    cases b2 with
    |false=>exact FL
    |true=>exact kG
   |true=>
    have HMIN:Hid (∀c,(c=2*i+1∨c=2*i+2)->∀z,q'[c]? =some z->Hp.lessS z y2=false):=A0 (fun c hc z hz=>by rcases hc with rfl|rfl;(·have e:=HY1.out;rw[hz]at e;injection e with e;subst e;exact Hp.lessS_as _ _ HB1.out.symm);·have e:=HY2.out;exact FK
    )
    have HL2:=A0 (fun w' (h:QB w' qb g n q')=>by have:=NO g n (2*i+2) i q' y2 x w' h.at_ h.len HY2.out HXI.out B0;rw[show((2*i+2:Nat):Int)=2*(i:Int)+1+1 by omega]at this;exact this)
    have HS2:=A0 (fun w' (h:QB w' qb g n q')=>by have:=FG g n i (2*i+2) q' x y2 w' h.at_ h.len HXI.out HY2.out B0 B0;rw[show((2*i+2:Nat):Int)=2*(i:Int)+1+1 by omega]at this;exact this)
    have hm2:=NP HQ2.out.cell
    obtain⟨b2,hb2⟩:∃b2,b2=Hp.lessS y2 x:=⟨_,rfl⟩
    rw[<-hb2]at HL2
    have HB2:=A0 hb2
    clear hb2
    go_wp2_with fail
    refine(HL2.out _ HQ2.out).mono ?_
    rintro e w3 ⟨rfl,hx3⟩
    have HQ3:=A0 (HQ2.out.on hx3)
    have HX3:=A0 (HX2.out.trans hx3)
    have hm3:=FI HQ3.out.cell
    clear hx3 hm2
    cases b2 with
    |false=>exact FL
    |true=>go_wp2_with fail;refine(HS2.out _ HQ3.out).mono ?_;rintro e w4 ⟨rfl,hq4,hg4⟩;have HQ4:=A0 (HQ3.out.turn hg4 hq4 (Hp.swap_len q' i (2*i+2)));have HG4:=A0 ((HG.out.trans (GB.ext HX3.out)).trans hg4);have HH4:=A0 (HH.out.step Hp.lessS_tr Hp.lessS_as hi0 B0 HXI.out HY2.out HB2.out.symm HMIN.out);have HP4:=A0 ((Hp.swap_perm HXI.out HY2.out).trans HP.out);clear hq4 hg4;go_wp2;go_roundw;(case rel=>exact⟨2*i+2,_,by omega,by omega,by go_num,HQ4,HH4,HP4,HG4⟩);case measure=>exact C1
  ·have hj2I:¬2*(i:Int)+1+1<(n:Int):=by omega
   have HQ2:=HQ
   have HX2:=A0 (Ext.refl wr)
   have HMIN:Hid (∀c,(c=2*i+1∨c=2*i+2)->∀z,q'[c]? =some z->Hp.lessS z y1=false):=A0 (fun c hc z hz=>by have hcl:=(I1.1 hz).1;rw[HQ.out.len]at hcl;obtain rfl:c=2*i+1:=B0;have e:=HY1.out;exact FK
   )
   have HL2:=A0 (fun w' (h:QB w' qb g n q')=>by have:=NO g n (2*i+1) i q' y1 x w' h.at_ h.len HY1.out HXI.out B0;rw[show((2*i+1:Nat):Int)=2*(i:Int)+1 by omega]at this;exact this)
   have HS2:=A0 (fun w' (h:QB w' qb g n q')=>by have:=FG g n i (2*i+1) q' x y1 w' h.at_ h.len HXI.out HY1.out B0 B0;rw[show((2*i+1:Nat):Int)=2*(i:Int)+1 by omega]at this;exact this)
   have hm2:=NP HQ2.out.cell
   obtain⟨b2,hb2⟩:∃b2,b2=Hp.lessS y1 x:=⟨_,rfl⟩
   rw[<-hb2]at HL2
   have HB2:=A0 hb2
   clear hb2
   go_wp2_with fail
   refine(HL2.out _ HQ2.out).mono ?_
   rintro e w3 ⟨rfl,hx3⟩
   have HQ3:=A0 (HQ2.out.on hx3)
   have HX3:=A0 (HX2.out.trans hx3)
   have hm3:=FI HQ3.out.cell
   clear hx3 hm2
   cases b2 with
   |false=>exact FL
   |true=>exact kG
 ·have hjI:(n:Int)<=2*(i:Int)+1:=B0;have HD:Hid (Hp.Heap Hp.lessS q' i0):=A0 (HH.out.done (fun c hc a b ha=>by have:=(I1.1 ha).1;rw[HQ.out.len]at this;omega));go_wp2;go_ret;exact⟨⟨_,rfl⟩,q',HQ.out,HD.out,HP.out,HG.out⟩
theorem ZnA (v:Value) (w:World):Calls prog 263 #[v,.int .i64 0] w fun e w'=>e=.returned (.tuple #[])∧w=w':=by
 go_enter func263,ntmps263;go_wp2_with fail;go_loopw [1] (fun t wr=>t=.int .i64 0∧wr=w) (fun _ _=>0);case atStart=>exact V6
 case round=>
 obtain⟨rfl,rfl⟩:=hrel;go_wp2;go_end0;exact V6
theorem ZmC (qb g n:Nat) (q:List Hp.Sh) (w:World) (hq:QB w qb g n q) (hn:n<=1000000) (hh:Hp.Near Hp.lessS q 0 0):
 Calls prog 228 #[.iface 252 (.pointer (some ⟨qb,0,none⟩)),.int .i64 0] w fun e w'=>e=.returned (.tuple #[])∧DnE qb g n 0 q w w':=by
 have HQ:=A0 hq
 have HL:=A0 (fun w'=>kC (some ⟨g,0,none⟩) n n w')
 have HD:=A0 (fun w' (h:QB w' qb g n q)=>kF qb g n 0 q w' h (O0 _) hn hh)
 have hm:=kE hq.cell
 clear hq hh
 go_enter func228,ntmps228
 go_wp2_with fail
 refine(HL.out _).mono ?_
 rintro e w1 ⟨rfl,hx1⟩
 have HQ1:=A0 (HQ.out.on hx1)
 go_wp2_with fail
 refine(HD.out _ HQ1.out).mono ?_
 rintro e w2 ⟨⟨b,rfl⟩,q',hq',hh',hp',hg'⟩
 have HQ2:=A0 hq'
 have HH2:=A0 hh'
 have HP2:=A0 hp'
 have HG2:=A0 ((GB.ext hx1).trans hg')
 clear hq' hh' hp' hg' hx1
 cases b with
 |true=>exact kH
 |false=>go_wp2_with fail;refine(ZnA _ w2).mono ?_;rintro e w3 ⟨rfl,rfl⟩;exact kH
theorem Zle (qb g n:Nat) (q:List Hp.Sh) (w:World) (hq:QB w qb g n q) (hn:n<=1000000):
 Calls prog 227 #[.iface 252 (.pointer (some ⟨qb,0,none⟩))] w fun e w'=>e=.returned (.tuple #[])∧DnE qb g n 0 q w w':=by
 have HQ:=A0 hq
 have HL:=A0 (fun w'=>kC (some ⟨g,0,none⟩) n n w')
 have hm:=kE hq.cell
 clear hq
 go_enter func227,ntmps227
 go_wp2_with fail
 refine(HL.out _).mono ?_
 rintro e w1 ⟨rfl,hx1⟩
 have HQ1:=A0 (HQ.out.on hx1)
 have HX1:=A0 hx1
 have HH1:Hid (Hp.Heap Hp.lessS q (n/2)):=A0 (Hp.Heap.last Hp.lessS q UA)
 clear hx1 hm HL
 go_wp2_with fail
 go_loopw [3] (fun t wr=>∃(k:Nat) (q':List Hp.Sh),k<=n∧t=.int .i64 ((k:Int)-1)∧Hid (QB wr qb g n q')∧Hid (Hp.Heap Hp.lessS q' k)∧Hid (q'.Perm q)∧Hid (GB (some g) w wr)) (fun t _=>(intOf t+1).toNat)
 case atStart=>exact⟨n/2,q,by omega,by go_num,HQ1,HH1,A0 (List.Perm.refl _),A0 (GB.ext HX1.out)⟩
 case round=>
 clear HQ HQ1 HX1 HH1
 obtain⟨k,q',hk,rfl,HQ,HH,HP,HG⟩:=hrel
 by_cases hk0:k=0
 ·subst hk0;go_wp2;go_end0;exact⟨rfl,q',HQ.out,HH.out,HP.out,HG.out⟩
 ·obtain⟨j,rfl⟩:∃j,k=j+1:=⟨k-1,by omega⟩;have hjI:((j+1:Nat):Int)-1=(j:Int):=B0;have hj0:(0:Int)<=(j:Int):=B0;rw[hjI];have HD:=A0 (fun w' (h:QB w' qb g n q')=>kF qb g n j q' w' h B0 hn HH.out.near);go_wp2_with fail;refine(HD.out _ HQ.out).mono ?_;rintro e w2 ⟨⟨b,rfl⟩,q2,hq',hh',hp',hg'⟩;have HQ2:=A0 hq';have HH2:=A0 hh';have HP2:=A0 (hp'.trans HP.out);have HG2:=A0 (HG.out.trans hg');clear hq' hh' hp' hg';go_wp2_with fail;go_roundw;(case rel=>exact⟨j,q2,by omega,by go_num,HQ2,HH2,HP2,HG2⟩);case measure=>exact C1
def arrV (l:List ByteArray):Value:=.agg (l.map Value.string).toArray
theorem gM (t:Nat) (ht:t<3) (w:World):Calls prog 181 #[.int .u8 ((65+t:Nat):Int)] w fun e w'=>e=.returned (arrV (Ea.rowB t))∧Ext w w':=by
 have h:t=0∨t=1∨t=2:=by omega
 rcases h with rfl|rfl|rfl;·go_enter func181,ntmps181;go_wp2;go_returns;exact G8
 ·go_enter func181,ntmps181;go_wp2;go_returns;exact G8
 ·go_enter func181,ntmps181;go_wp2;go_returns;exact G8
theorem gN (w:World):Calls prog 179 #[] w fun e w'=>e=.returned (arrV Ea.leftB)∧Ext w w':=by go_enter func179,ntmps179;go_wp2;go_returns;exact G8
theorem ZdT (c:Int) (h:(c==49)=false) (w:World):Calls prog 180 #[.int .u8 c] w fun e w'=>e=.returned (arrV (Ea.compB 0))∧Ext w w':=by go_enter func180,ntmps180;go_wp2;go_returns;exact G8
theorem MT (v:Value) (m:List Bool) (w:World) (hv:SlK w v (m.map encT)) (hm:m.length<=1000000):
 Calls prog 42 #[v] w fun e w'=>e=.returned (.tuple #[.int .i64 (Ea.ldg m:Int),.int .i64 (Ea.trl m:Int)])∧w=w':=by
 obtain⟨hsl,a,c,rfl,_⟩:=hv
 rw[J0]at hsl⊢
 have HV:=A0 hsl
 clear hsl
 go_enter func42,ntmps42
 go_wp2
 go_loop [2] (fun i=>∃k:Nat,k<=m.length∧i=.int .i64 (k:Int)∧Hid (Ea.ldg (m.drop k)+k=Ea.ldg m)) (fun i=>m.length-(intOf i).toNat)
 case atStart=>exact X4
 case round=>
  obtain⟨k,hk,rfl,hl⟩:=hrel;by_cases hlt:k<m.length
  ·obtain⟨bb0,off0,ha0,hbl0,hc00⟩:=HV.out.at_ (k:=k) XY
   subst ha0
   rw[E5]at hc00
   unfold encT at hc00
   obtain⟨b,hb⟩:∃b,m[k]=b:=⟨_,rfl⟩
   rw[hb]at hc00
   have hl2:=hl.out
   rw[C5 hlt,hb]at hl2
   have HL2:=A0 hl2
   clear hl2 hl hb
   cases b with
   |true=>have HL:Hid (((Ea.ldg m:Nat):Int)=(k:Int)):=A0 EF;clear HL2;go_wp2;go_loop [3] (fun i=>∃j:Nat,j<=m.length∧i=.int .i64 (j:Int)∧Hid (Ea.ldg (m.reverse.drop j)+j=Ea.trl m)) (fun i=>m.length-(intOf i).toNat);(case atStart=>exact X4);case round=>exact QX
   |false=>exact uQ
  ·obtain rfl:k=m.length:=B0;have HL:Hid (((Ea.ldg m:Nat):Int)=(m.length:Int)):=A0 uR;clear hk hlt hl;go_wp2;go_loop [3] (fun i=>∃j:Nat,j<=m.length∧i=.int .i64 (j:Int)∧Hid (Ea.ldg (m.reverse.drop j)+j=Ea.trl m)) (fun i=>m.length-(intOf i).toNat);(case atStart=>exact X4);case round=>exact Q2
attribute [local go_sem] Oper.semAt_some
theorem Zkm (a:Option Addr) (n c:Nat) (w:World):
 Calls prog 85 #[.slice a n c] w fun e w'=>e=.returned (.func (.func 152) #[] #[.pointer (some ⟨w.heap.size,0,none⟩)])∧w'=w.alloc (.cells #[.slice a n c] 26):=by
 have hmf:∀(fn:Fn) (first cap:Array Value) (w:World),(Instr.makeFunc fn first cap).run prog w=.ok (.func fn first cap) w:=fun _ _ _ _=>rfl
 go_enter func85,ntmps85
 go_wp2
 go_ret
 exact⟨rfl,rfl⟩
def ZM (n₀ Bn:Nat) (v:Value) (W W':World):Prop:=Below n₀ W W'∧(Boxed W Bn 26 v->Boxed W' Bn 26 v)
theorem ZM.t {n₀ Bn:Nat} {v:Value} {A B C:World} (h:ZM n₀ Bn v A B) (k:ZM n₀ Bn v B C):ZM n₀ Bn v A C:=⟨h.1.trans k.1,fun x=>k.2 (h.2 x)⟩
theorem ZM.b {n₀ Bn:Nat} {v:Value} {w:World} (hn:n₀<=w.heap.size) (W:World) (l:Nat) (o o':Obj) (hl:w.heap.size<=l) (h:W.heap[l]? =some o) (h1:o.isCells=false) (h2:o.isWalk=false):ZM n₀ Bn v W (W.putObj l o'):=
 ⟨belowK_b hn W l o o' hl h h1 h2,fun x=>x.kept (grownBy_putObj' W l o') (fun e=>by injection e with e;subst e;rw[show W.heap[Bn]? =_ from x]at h;injection h with h;subst h;cases h1)⟩
theorem ZM.ext {n₀ Bn:Nat} {v:Value} {W W':World} (hn:n₀<=W.heap.size) (h:Ext W W'):ZM n₀ Bn v W W':=⟨Below.mono h hn,fun x=>x.kept h.asGrown L0⟩
theorem Zkl (n:Nat) (hn:1<=n) (l Bn n₀:Nat) (v:Value) (m:List Bool) (hm:m.length<=1000000) (w0:World) (hv:SlK w0 v (m.map encT)) (hw0:w0.heap.size<=n₀) (J Jx:List Nat->World->Prop)
 (hY:∀(pre:List Nat) (x:Nat) (W:World),J pre W->pre.length<m.length->YieldAt Fence.wide (n-1) prog l #[.int .i64 (x:Int)] W fun e W'=>(e=.returned (.bool true)∧J (pre++[x]) W'∧ZM n₀ Bn v W W')∨(e=.returned (.bool false)∧Jx (pre++[x]) W'))
 (W:World) (hX:Ext w0 W) (hn0:n₀<=W.heap.size) (hBn:Boxed W Bn 26 v) (hJn:AbidesFrom W.heap.size J) (h0:J [] W):
 CallsIn Fence.wide n prog 152 #[.func (.yield l) #[] #[],.pointer (some ⟨Bn,0,none⟩)] W fun e W'=>(∃v,e=.returned v)∧
  ((∃ys,ys=Rn.widthsN m∧J ys W')∨(∃pre,pre<+:Rn.widthsN m∧Jx pre W')):=by
 have hvW:=hv.ext hX
 have HMG:=A0 (MT v m W hvW hm)
 obtain⟨hsl,a,c,rfl,-⟩:=hv
 rw[J0]at hsl HMG hBn
 obtain⟨nn,hnn⟩:∃nn,nn=m.length:=⟨_,rfl⟩
 obtain⟨hla,hlb⟩:=Rn.ldg_len m
 have hrc:=Rn.rest_core m
 simp only[J0]at hY
 simp only[<-hnn]at hY
 rw[<-hnn]at hsl HMG hm hla hlb hrc hBn
 obtain⟨A,hA⟩:∃A,A=Ea.ldg m:=⟨_,rfl⟩
 obtain⟨B,hB⟩:∃B,B=Ea.trl m:=⟨_,rfl⟩
 rw[<-hA]at HMG hla hrc
 rw[<-hB]at HMG hlb hrc
 have hne:A=nn∨(A<nn∧A+B<nn):=by rcases Rn.row_split m with⟨_,_,h3,_⟩|⟨q,h1,_,h3⟩;(·left;rw[hA,h3,hnn]);·right;have h4:=R0 List.length h3;rw[T0,T0,D3,D3,h1,D1]at h4;omega
 obtain⟨E,hE⟩:∃E,E=nn-B:=⟨_,rfl⟩
 rw[<-hE]at hrc
 have hEI:(nn:Int)-(B:Int)=(E:Int):=by omega
 have hEn:E<=nn:=by omega
 have HV:=A0 hsl
 have HRC:=A0 hrc
 have HY:=A0 hY
 have HJ:=A0 hJn
 have HTL:Hid ((m.take E).length=E):=A0 X3
 have HTE:Hid (∀(i:Nat) (b:Bool),(m.take E)[i]? =some b->m[i]? =some b):=A0 (fun i b h=>by rw[W6]at h;split at h;(·exact h);·cases h)
 generalize Rn.widthsN m=res at*
 generalize m.take E=mE at*
 have H0:=A0 h0
 have HX:=A0 hX
 clear hnn hsl hrc hA hB hE hlb hY hJn h0 hX
 have hbn:=hBn.cell
 refine callsIn_of_wp func152 rfl trivial ?_ rfl
 simp only[ntmps152,List.size_toArray,D1,O4,Nat.reduceAdd,Nat.reduceSub,Array.replicate_succ,Array.replicate_zero,List.push_toArray,List.append_toArray,P5,J3]
 rcases hne with hne|⟨hne,hAB⟩
 ·have zA:((A:Int)==(nn:Int))=true:=Y0.2 B0
  gi_wp2_with fail
  refine⟨trivial,?_⟩
  refine(MU.2 HMG.out).mono ?_
  rintro e w1 ⟨rfl,rfl⟩
  gi_wp2
  refine E1 (NG rfl _ _ _) rfl ?_
  exact⟨⟨_,rfl⟩,.inl ⟨[],by rw[HRC.out,O5 UN];rfl,H0.out⟩⟩
 ·have zA:((A:Int)==(nn:Int))=false:=N0.2 B0
  have hAE:A<E:=by omega
  gi_wp2_with fail
  refine⟨trivial,?_⟩
  refine(MU.2 HMG.out).mono ?_
  rintro e w1 ⟨rfl,rfl⟩
  gi_wp2_with fail
  gi_loopw [6,7] (fun s k wr=>∃(st i:Nat) (pre:List Nat),s=.int .i64 (st:Int)∧k=.int .i64 (i:Int)∧st<i∧i<=E+1∧pre.length<=st∧Hid (res=pre++(if i<=E then Rn.rest (i-1-st) (mE.drop (i-1))else []))∧Hid (mE[st]? =mE[i-1]?∨i=E+1)∧Hid (J pre wr)∧Hid (Below n₀ W wr)∧Hid (Boxed wr Bn 26 (.slice a nn c))) (fun _ k _=>E+1-(intOf k).toNat)
  case atStart=>exact⟨A,A+1,[],rfl,by go_num,by omega,by omega,O0 _,A0 (by rw[D0 B0,HRC.out,VR,I4];rfl),A0 (.inl rfl),H0,A0 (XE _ _),A0 hBn⟩
  case round=>
   obtain⟨st,i,pre,rfl,rfl,hsi,hiE,hpl,HR,HS,HJp,HB,HBX⟩:=hrel;have hXw:Ext w0 wr:=U8 (B:=w0.heap.size) HX.out (HB.out.mono hw0);have hsw:n₀<=wr.heap.size:=B4 hn0 HB.out.size;have hbx:=HBX.out.cell;by_cases hle:i<=E
   ·have hleI:(i:Int)<=(E:Int):=B0;obtain⟨cb,hcb⟩:∃cb,mE[i-1]? =some cb:=⟨_,M0 UN⟩;have hst:mE[st]? =some cb:=(by rcases HS.out with h|h;(·rw[h,hcb]);·omega);have hdi:mE.drop (i-1)=cb::mE.drop i:=(by obtain⟨h1,h2⟩:=I1.1 hcb;rw[C5 h1,h2,show i-1+1=i by omega]);have hrr:=HR.out;rw[D0 hle,hdi]at hrr;obtain⟨x,hx⟩:∃x,x=i-1-st+1:=⟨_,rfl⟩;have hxI:(i:Int)-(st:Int)=(x:Int):=B0;have hpn:pre.length<nn:=B0;have hpl2:(pre++[x]).length<=i:=YQ;by_cases hlt:i<E
    ·have hltI:(i:Int)<(E:Int):=B0;obtain⟨db,hdb⟩:∃db,mE[i]? =some db:=⟨_,M0 UN⟩;have hdj:mE.drop i=db::mE.drop (i+1):=uS;obtain⟨b,o,ha,hb,c0⟩:=HV.out.bool_at hXw (HTE.out _ _ hst);subst ha;obtain⟨b',o',ha',hb',c1⟩:=HV.out.bool_at hXw (HTE.out _ _ hdb);injection ha' with ha';injection ha' with h1 h2;subst h1 h2;have hin:(i:Int)<(nn:Int):=B0;have hsn:(st:Int)<(nn:Int):=B0;rw[hdj,Rn.rest_two,<-hx]at hrr;by_cases hd:db=cb
     ·have HR2:Hid (res=pre++(if i+1<=E then Rn.rest (i+1-1-st) (mE.drop (i+1-1))else [])):=A0 (by rw[D0 B0,hrr,D0 hd,VR,hdj,show i-st=x by omega])
      have HS2:Hid (mE[st]? =mE[i+1-1]?∨i+1=E+1):=A0 (.inl (by rw[VR,hst,hdb,hd]))
      subst hd
      have hd9:decide ((i:Int)<(E:Int))=true:=V0 hltI
      clear hcb hst hdi hrr hdb hdj hx hle hlt HR HS hpl2
      gi_wp2_with fail
      gi_quiet_th (fail)
      have HJq:Hid (J pre (wr.drewN nq)):=A0 (HJ.out _ _ _ none HJp.out (Ext.asGrown ((Ext.refl _).drewN _)) (fun r e=>by cases e))
      have HBq:Hid (Below n₀ W (wr.drewN nq)):=A0 (U8 HB.out (Below.mono ((Ext.refl wr).drewN nq) hsw))
      have HBXq:Hid (Boxed (wr.drewN nq) Bn 26 _):=A0 (HBX.out.kept (Ext.asGrown ((Ext.refl wr).drewN nq)) L0)
      clear HJp HB HBX
      gi_wp2
      go_roundw
      case rel=>exact⟨st,i+1,pre,rfl,by go_num,by omega,by omega,hpl,HR2,HS2,HJq,HBq,HBXq⟩
      case measure=>exact C1
     ·have zd:(db==cb)=false:=by cases db<;>cases cb<;>first|rfl|exact absurd rfl hd
      rw[C0 hd]at hrr
      have HRE:Hid ((pre++[x])++Rn.rest 0 (db::mE.drop (i+1))=res):=A0 (by rw[hrr,M3];rfl)
      have HR2:Hid (res=(pre++[x])++(if i+1<=E then Rn.rest (i+1-1-i) (mE.drop (i+1-1))else [])):=A0 (by rw[D0 B0,<-HRE.out,VR,I4,hdj])
      have HS2:Hid (mE[i]? =mE[i+1-1]?∨i+1=E+1):=A0 (.inl rfl)
      have hd9:decide ((i:Int)<(E:Int))=true:=V0 hltI
      clear hcb hst hdi hrr hdb hdj hx hle hlt HR HS hd
      gi_wp2_with fail
      gi_quiet_th (fail)
      obtain⟨fn,tmps,assign,body,hy,hR⟩:=HY.out pre x (wr.drewN nq) (HJ.out _ _ _ none HJp.out (Ext.asGrown ((Ext.refl _).drewN _)) (fun r e=>by cases e)) hpn
      gi_wp2
      refine hR.mono ?_
      rintro e W3 (⟨rfl,hJ3,hk3⟩|⟨rfl,hJx3⟩)
      ·have HJ3:=A0 hJ3
       have HK3:=(ZM.ext hsw ((Ext.refl wr).drewN nq)).t hk3
       have HB3:=A0 (U8 HB.out HK3.1)
       have HBX3:=A0 (HK3.2 HBX.out)
       clear HK3
       clear hJ3 hk3 hR hy HJp HB HBX
       gi_wp2
       go_roundw
       case rel=>exact gO
       case measure=>exact C1
      ·have HJ3:=A0 hJx3
       clear hJx3 hR hy HJp HB HBX
       gi_wp2
       refine E1 (NG rfl _ _ _) rfl ?_
       exact⟨⟨_,rfl⟩,.inr ⟨pre++[x],⟨_,HRE.out⟩,HJ3.out⟩⟩
    ·obtain rfl:i=E:=by omega
     have h0:mE.drop i=[]:=O5 (by rw[HTL.out];exact K0 _)
     rw[h0,Rn.rest_one,<-hx]at hrr
     have HRE:Hid ((pre++[x])++[]=res):=A0 (by rw[hrr,P3])
     have HR2:Hid (res=(pre++[x])++(if i+1<=i then Rn.rest (i+1-1-i) (mE.drop (i+1-1))else [])):=A0 (by rw[C0 B0,hrr,P3])
     have HS2:Hid (mE[i]? =mE[i+1-1]?∨i+1=i+1):=A0 (.inr rfl)
     have hd9:decide ((i:Int)<(i:Int))=false:=X0 B0
     clear hcb hst hdi hrr hx hle hlt HR HS h0
     gi_wp2_with fail
     gi_quiet_th (fail)
     obtain⟨fn,tmps,assign,body,hy,hR⟩:=HY.out pre x (wr.drewN nq) (HJ.out _ _ _ none HJp.out (Ext.asGrown ((Ext.refl _).drewN _)) (fun r e=>by cases e)) hpn
     gi_wp2
     refine hR.mono ?_
     rintro e W3 (⟨rfl,hJ3,hk3⟩|⟨rfl,hJx3⟩)
     ·have HJ3:=A0 hJ3
      have HK3:=(ZM.ext hsw ((Ext.refl wr).drewN nq)).t hk3
      have HB3:=A0 (U8 HB.out HK3.1)
      have HBX3:=A0 (HK3.2 HBX.out)
      clear HK3
      clear hJ3 hk3 hR hy HJp HB HBX
      gi_wp2
      go_roundw
      case rel=>exact gO
      case measure=>exact C1
     ·have HJ3:=A0 hJx3
      clear hJx3 hR hy HJp HB HBX
      gi_wp2
      refine E1 (NG rfl _ _ _) rfl ?_
      exact⟨⟨_,rfl⟩,.inr ⟨pre++[x],⟨_,HRE.out⟩,HJ3.out⟩⟩
   ·obtain rfl:i=E+1:=by omega
    have HRF:Hid (pre=res):=A0 (by rw[HR.out,C0 B0,P3])
    clear hle HR HS
    gi_wp2
    go_end0
    exact⟨⟨_,rfl⟩,.inl ⟨pre,HRF.out,HJp.out⟩⟩
theorem Zh6 (n:Nat) (hn:1<=n) (Bn n₀:Nat) (v:Value) (m:List Bool) (hm:m.length<=1000000) (w0 w:World) (hv:SlK w0 v (m.map encT)) (hw0:w0.heap.size<=n₀) (hX:Ext w0 w) (hn0:n₀<=w.heap.size) (hBn:Boxed w Bn 26 v):
 SeqStopsK Fence.wide n prog 152 #[.pointer (some ⟨Bn,0,none⟩)] (fun x:Nat=> #[Value.int .i64 (x:Int)]) (ZM n₀ Bn v) (fun ys=>ys=Rn.widthsN m) (fun pre=>pre<+:Rn.widthsN m) m.length w:=fun l J Jx W hW hJ _ hY h0=>
 Zkl n hn l Bn n₀ v m hm w0 hv hw0 J Jx hY W (hX.trans hW) (B4 hn0 hW.size) (hBn.kept (Ext.asGrown hW) L0) hJ h0
theorem Rn.infoI:(prog.info? 3).map (fun i=>(i.zero,i.size,i.bytes))=some (some (.int .i64 0),1,8):=B1
theorem EP (v:Value) (m:List Bool) (w:World) (hv:SlK w v (m.map encT)) (hm:m.length<=1000000):
 Calls prog 41 #[v] w fun e w'=>∃u,e=.returned u∧SlK w' u ((Rn.widths m).map encI)∧Ext w w':=by
 obtain⟨i0,hi,hz0,hz1,hz2⟩:=V5 Rn.infoI
 obtain⟨hsl,a,c,hvv,hcc⟩:=id hv
 refine(MU (n:=4)).1 ?_
 refine callsIn_of_wp_marks func41 rfl trivial ?_ rfl
 simp only[ntmps41,List.size_toArray,D1,O4,Nat.reduceAdd,Nat.reduceSub,Array.replicate_succ,Array.replicate_zero,List.push_toArray,List.append_toArray,P5,J3]
 subst hvv
 gi_wp2_with fail
 refine⟨trivial,?_⟩
 refine(MU.2 (Zkm _ _ _ _)).mono ?_
 rintro e w1 ⟨rfl,rfl⟩
 gi_wp2_with fail
 have bO:=Boxed.new w 43 (.slice none 0 0)
 have bN:=Boxed.new (w.alloc (.cells #[.slice none 0 0] 43)) 26 (.slice a (m.map encT).length c)
 rw[UP]at bN
 have hB0:Below w.heap.size w ((w.alloc (.cells #[.slice none 0 0] 43)).alloc (.cells #[.slice a (m.map encT).length c] 26)):=((XE _ w).alloc (K0 _) _).alloc L0 _
 have hsz0:((w.alloc (.cells #[.slice none 0 0] 43)).alloc (.cells #[.slice a (m.map encT).length c] 26)).heap.size=w.heap.size+2:=by simp
 obtain⟨W0,hW0⟩:∃W0,W0=(w.alloc (.cells #[.slice none 0 0] 43)).alloc (.cells #[.slice a (m.map encT).length c] 26):=⟨_,rfl⟩
 rw[<-hW0]at bN hB0 hsz0
 have bO2:Boxed W0 w.heap.size 43 (.slice none 0 0):=by rw[hW0];exact bO.alloc _
 simp only[J0]at hW0 bN
 try simp only[J0]
 rw[<-hW0]
 refine wpIn_rangeFunc_ownG rfl B0 (gf:=152) (lb:= #[.pointer (some ⟨w.heap.size+1,0,none⟩)]) rfl trivial (enters_of func152 G0 rfl)
  (Zh6 3 B0 (w.heap.size+1) w.heap.size _ m hm w W0 hv (K0 _) hB0 B0 (by rw[J0];exact bN)) ZM.t (ZM.b B0) (XE _ _) (fun _=>rfl)
  (fun pre W=>(∃v,Boxed W w.heap.size 43 v∧W.ownsRow w.heap.size 3 1 v pre.length (pre.map fun(x:Nat)=>Value.int .i64 (x:Int))∧True)∧Below w.heap.size W0 W)
  (fun _ _ _=>False)
  (OwnFrom.and (Own.from (holdsRow_own w.heap.size w.heap.size 43 3 1 (fun pre:List Nat=>pre.length) (fun pre=>pre.map fun(x:Nat)=>Value.int .i64 (x:Int)) (fun _ _=>True)) _) (ownFrom_below B0 B0))
  (fun _ _ _ _ _ hs _ _=>hs)
  ⟨⟨_,bO2,OF _ _ _ _,trivial⟩,XE _ _⟩
  (fun x=> {tmps:= #[.slice a m.length c,undef,.slice none 0 0,.pointer (some ⟨w.heap.size,0,none⟩),.int .i64 (x:Int),.slice a m.length c,.func (.func 152) #[] #[.pointer (some ⟨w.heap.size+1,0,none⟩)],.int .i64 (x:Int),undef,undef,undef,undef,undef],defers:=[]}) ?assign ?body ?done ?stop
 case assign=>
  intro l x W K hK
  gi_wp2
  exact hK
 case body=>
  rintro l pre x W ⟨⟨v,hv,hrow,-⟩,hB⟩ hlt
  have hc:=hv.cell
  have hmx:pre.length+1<=maxLen:=B4 (m:=1000001) B0 I0
  have hmb:(pre.length+1)*8<=140737488355328:=by omega
  have hsw:w.heap.size<=W.heap.size:=by have:=hB.size;omega
  gi_wp2_with (gi_at_builtin;refine wpListIn_append_own _ rfl _ _ 43 rfl w.heap.size 3 i0 (.int .i64 0) 1 8 underlying43 hi hz0 hz1 hz2 rfl I0 _ _ _ rfl (hrow.alloc _) ⟨W.heap.size,0,none⟩ 1 1 [.int .i64 (x:Int)] rfl rfl (cell_one_new _ _ _) (by simp[Value.oneCell']) hmx hmb (by rw[UP];omega) ?_;intro v' w1 hown' hgrow _;obtain⟨g',cap',rfl⟩:=ownsRow_succ hown';obtain⟨hv1,hv2,hr2,hk2,hb2⟩:=hv.appended I0 hrow hsw (K0 _) hown' hgrow;have hc1:=hv1.cell;have hf1:=hv1.frozen;have hbx2:=fun(x:Boxed W (w.heap.size+1) 26 (.slice a m.length c))=>(((x.alloc _).kept hgrow (x.not_row I0 hrow)).kept (grownBy_setCell' w1 w.heap.size (.slice (some ⟨g',0,none⟩) (pre.length+1) cap')) L0))
  refine⟨hk2.from _,⟨hb2,by rw[J0];exact hbx2⟩,⟨_,hv2,by simpa using hr2,trivial⟩,hB.trans hb2⟩
 case done=>
  rintro D ys W hD rfl ⟨⟨v,hv,hrow,-⟩,hB⟩ hK
  have hc:=hv.cell
  gi_wp2
  refine⟨by simp,.inl ⟨_,_,rfl,run_takeDeferred hK,?_⟩⟩
  have hrow2:=ownsRow_putObj hrow (.deferred none) hK rfl
  refine⟨_,results_tmp rfl _ _ _,v,rfl,?_,?_⟩
  ·have ho:Own 3 (W.putObj D (.deferred none)) w.heap.size v ((Rn.widths m).map encI):=(by unfold Own;have e:(Rn.widths m).map encI=(Rn.widthsN m).map fun(x:Nat)=>Value.int .i64 (x:Int):=(by unfold Rn.widths;rw[G7];rfl);rw[e,J0];exact hrow2);exact ho.slk
  ·exact U8 (U8 hB0 hB) (belowK_b (w:=w) (K0 _) W D _ _ B0 hK rfl rfl)
 case stop=>rintro D c pre W _ _ h _;exact h.elim
theorem gP (v:Value) (ws:List Int) (w:World) (hv:Sl w v (ws.map encI)) (hne:0<ws.length) (hl:ws.length<=1000000):
 Calls prog 105 #[v] w fun e w'=>e=.returned (.bool (Tw.inRng ws))∧w=w':=by
 rcases hv with⟨h1,_⟩|⟨b,o,cap,he,hb,hc⟩
 ·have:ws=[]:=YM;rw[this]at hne;simp at hne
 ·rw[he,J0];refine jZ b o cap ws w (fun j hj=> ?_) B0;rw[hc j (by rw[J0];exact hj),J2,M0 hj,U0,M0 hj];rfl
theorem Zht (w:World) (n:Nat) (B:Nat) (hn:n<=1000000) (hB:B<=w.heap.size):∃w',(Instr.makeSlice 26 (.int .i64 0) (.int .i64 (n:Int))).run prog w=.ok (.slice (some ⟨w.heap.size,0,none⟩) 0 n) w'∧Own 4 w' B (.slice (some ⟨w.heap.size,0,none⟩) 0 n) []∧Ext w w':=by obtain⟨i0,hi,hz0,hz1,hz2⟩:=V5 VJ;obtain⟨w',h1,h2,h3⟩:=run_make_own (P:=prog) w B 26 4 i0 (.bool false) 1 underlying26 hi hz0 hz1 .i64 .i64 n RS RT hB;exact⟨w',h1,h2,(Ext.refl w).ofGrown h3 (fun k hk=>by cases hk)⟩
theorem ZgJ (v:Value) (ws:List Int) (w:World) (hv:Sl w v (ws.map encI)) (hl:ws.length<=1000000):
 Calls prog 65 #[v] w (UL (Rn.modules ws) w):=by
 have HIR:=A0 (fun hne=>gP v ws w hv hne hl)
 obtain⟨a,c,rfl⟩:=hv.form
 rw[J0]at hv HIR⊢
 obtain⟨n,hn⟩:∃n,n=ws.length:=⟨_,rfl⟩
 rw[<-hn]at hv hl HIR⊢
 have HN:=A0 hn
 have HV:=A0 hv
 have HR:=A0 (Rn.modules.eq_1 ws)
 rw[<-hn]at HR
 generalize Rn.modules ws=res at*
 clear hv hn
 by_cases h0:n=0
 ·have z0:((n:Int)==0)=true:=Y0.2 B0;rw[D0 h0]at HR;clear h0 HIR;go_enter func65,ntmps65;exact XX
 have z0:((n:Int)==0)=false:=N0.2 B0
 rw[C0 h0]at HR
 have hpos:0<n:=by omega
 clear h0
 by_cases h2:n%2=0
 ·have z2:((n:Int)%2==0)=true:=Y0.2 B0;rw[D0 h2]at HR;clear h2 HIR;go_enter func65,ntmps65;exact XX
 have z2:((n:Int)%2==0)=false:=N0.2 B0
 rw[C0 h2]at HR
 clear h2
 cases hrg:Tw.inRng ws with
 |false=>rw[hrg,D0 rfl]at HR;have HIR2:=A0 (HIR.out hpos);rw[hrg]at HIR2;clear hrg HIR;go_enter func65,ntmps65;go_wp2_with fail;refine HIR2.out.mono ?_;rintro e w1 ⟨rfl,rfl⟩;exact XX
 |true=>
 rw[hrg,C0 I0]at HR
 have HIR2:=A0 (HIR.out hpos)
 rw[hrg]at HIR2
 clear HIR
 have HIN:=A0 (fun x hx=>YO hrg (x:=x) hx)
 have hsb:=Rn.sum_in HIN.out
 obtain⟨S,hS⟩:∃S,S=Rn.sum ws:=⟨_,rfl⟩
 rw[<-hS]at HR hsb
 have HSS:=A0 hS
 have hS0:=hsb.1
 have hS1:S<=65536000000:=I8
 clear hrg hsb hS
 by_cases h4:65536<S
 ·rw[D0 h4]at HR;go_enter func65,ntmps65;go_wp2_with fail;refine HIR2.out.mono ?_;rintro e w1 ⟨rfl,rfl⟩;go_wp2_with fail;go_loop [4,22] (fun s i=>∃(j:Nat) (t:Int),j<=n∧i=.int .i64 (j:Int)∧s=.int .i64 t∧0<=t∧t<=65536*(j:Int)∧Hid (t=Rn.sum (ws.take j))) (fun _ i=>n-(intOf i).toNat);(case atStart=>exact UQ)
  case round=>
  obtain⟨j,t,hj,rfl,rfl,ht0,ht1,HT⟩:=hrel;by_cases hlt:j<n;(·exact EQ);obtain rfl:n=j:=B0;obtain rfl:t=S:=ER;clear hj hlt HT;exact XX
 rw[C0 h4]at HR
 obtain⟨N,rfl⟩:∃N:Nat,S=(N:Int):=⟨S.toNat,by omega⟩
 obtain⟨wm,hmk,hOm,hXm⟩:=Zht w N w.heap.size B0 (K0 _)
 have HOm:=A0 hOm
 have HXm:=A0 hXm
 clear hOm hXm
 have HLEN:Hid (∀j,(Rn.mods true (ws.take j)).length<=65536):=A0 (fun j=>by have h1:=Rn.mods_len (ws.take j) true (fun x hx=>(HIN.out x (G4 hx)).1);have h2:Rn.sum (ws.take j)+Rn.sum (ws.drop j)=(N:Int):=uN;have h3:=Rn.sum_pos (ws.drop j) (fun x hx=>(HIN.out x (M6 hx)).1);omega)
 go_enter func65,ntmps65
 go_wp2_with fail
 refine HIR2.out.mono ?_
 rintro e w1 ⟨rfl,rfl⟩
 go_wp2_with fail
 go_loop [4,22] (fun s i=>∃(j:Nat) (t:Int),j<=n∧i=.int .i64 (j:Int)∧s=.int .i64 t∧0<=t∧t<=65536*(j:Int)∧Hid (t=Rn.sum (ws.take j))) (fun _ i=>n-(intOf i).toNat)
 case atStart=>exact UQ
 case round=>
 obtain⟨j,t,hj,rfl,rfl,ht0,ht1,HT⟩:=hrel
 by_cases hlt:j<n
 ·exact EQ
 obtain rfl:n=j:=by omega
 obtain rfl:t=(N:Int):=ER
 clear hj hlt HT
 go_wp2_with fail
 go_loopw [7,36] (fun v i wr=>∃j:Nat,j<=n∧i=.int .i64 (j:Int)∧Hid (Own 4 wr w.heap.size v ((Rn.mods true (ws.take j)).map encT))∧Hid (Ext w wr)) (fun _ i _=>n-(intOf i).toNat)
 case atStart=>exact MV
 case round=>obtain⟨j,hj,rfl,HO,HX⟩:=hrel;by_cases hlt:j<n;(·obtain⟨x,hxj⟩:∃x,ws[j]? =some x:=⟨_,M0 J4⟩;have hx:=HIN.out x (J1 hxj);obtain⟨m,rfl⟩:∃m:Nat,x=(m:Int):=⟨x.toNat,by omega⟩;obtain⟨cb,hcb⟩:∃cb,cb=((j:Int)%2==0):=⟨_,rfl⟩;have HMS:Hid (Rn.mods true (ws.take (j+1))=Rn.mods true (ws.take j)++List.replicate m cb):=A0 uO;have hm9:m<=65536:=B0;have hjI:(j:Int)<(n:Int):=B0;have HL2:=A0 (HLEN.out (j+1));have HXJ:=A0 hxj;have hcb2:=hcb.symm;generalize Rn.mods true (ws.take j)=got at*;clear hxj hx hcb;obtain⟨b,o,ha,hb,hc⟩:=HV.out.int_at HX.out HXJ.out;subst ha;go_wp2_with fail;go_loopw [7,42] (fun v k wq=>∃q:Nat,q<=m∧k=.int .i64 (q:Int)∧Hid (Own 4 wq w.heap.size v ((got++List.replicate q cb).map encT))∧Hid (Ext w wq)) (fun _ k _=>m-(intOf k).toNat);(case atStart=>exact⟨0,O0 _,rfl,by simpa using HO,HX⟩);case round=>clear HO HX;obtain⟨q,hq,rfl,HO,HX⟩:=hrel;exact Q7);·exact uP
end
end Go.Proofs.YtbngggoccndefaaGreatDoor
