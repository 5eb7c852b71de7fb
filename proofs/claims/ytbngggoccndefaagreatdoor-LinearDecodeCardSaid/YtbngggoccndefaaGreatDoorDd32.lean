/-
  Laid together.
-/
import Derived.Test.YtbngggoccndefaaGreatDoorDd08
import Derived.Handy
set_option maxHeartbeats 16000000
set_option maxRecDepth 100000
set_option linter.unusedVariables false
set_option linter.unusedSimpArgs false
set_option linter.ambiguousOpen false
namespace Go.Proofs.YtbngggoccndefaaGreatDoor
open Go.Proofs.Tryz
section
open Go.RowKit Go.MuLone
abbrev muLink:Go.Conc.Locks.MuLink:= {lock:=288,unlock:=289,ilock:=295,iunlock:=296,lockSlow:=305,unlockSlow:=308,disable:=301,enable:=303,acquire:=304,relMerge:=306,cas32:=302,add32:=307,tMutex:=304,tIMutex:=302,tPMutex:=335,tPIMutex:=349,tPI32:=351,tUP:=202,tNoCopy:=297,tU32:=257}
theorem muLib:Go.Conc.Locks.MuLib prog muLink:=
 ⟨func288,func289,func295,func296,func301,func303,func304,func306,func302,func307,underlying302,Tryz.runUnderlying302,Tryz.sizeOf302,Tryz.isAgg302,Tryz.zeroValue302,underlying304,Tryz.runUnderlying304,Tryz.sizeOf304,Tryz.isAgg304,Tryz.zeroValue304,underlying335,Tryz.runUnderlying335,Tryz.sizeOf335,Tryz.isAgg335,Tryz.zeroValue335,underlying349,Tryz.runUnderlying349,Tryz.sizeOf349,Tryz.isAgg349,Tryz.zeroValue349,underlying351,Tryz.runUnderlying351,Tryz.sizeOf351,Tryz.isAgg351,Tryz.zeroValue351,underlying202,Tryz.runUnderlying202,Tryz.sizeOf202,Tryz.isAgg202,Tryz.zeroValue202,underlying297,Tryz.runUnderlying297,Tryz.sizeOf297,Tryz.isAgg297,Tryz.zeroValue297,underlying21,Tryz.runUnderlying21,Tryz.sizeOf21,Tryz.isAgg21,Tryz.zeroValue21,QhO⟩
def ABBA:List (List UInt8):=[[65],[66],[66],[65]]
def Fresh (w:World) (b:Nat) (m:Int):Prop:=∃v,w.heap[b]? =some (.cells #[.int .u32 0,.int .i32 m,.int .u32 0,.nilIface,v] 310 (0,0))∧SlN w 0 v (ABBA.map encS)∧v.ownBlock≠some b
theorem Zdd (bx:Nat) (w:World) (h0:w.cell? ⟨bx,0,none⟩=some (.string ⟨#[65]⟩)) (h1:w.cell? ⟨bx,1,none⟩=some (.string ⟨#[66]⟩)) (h2:w.cell? ⟨bx,2,none⟩=some (.string ⟨#[66]⟩)) (h3:w.cell? ⟨bx,3,none⟩=some (.string ⟨#[65]⟩)):
 Calls prog 241 #[.slice (some ⟨bx,0,none⟩) 4 4] w fun e w'=>∃b,e=.returned (.pointer (some ⟨b,0,none⟩))∧w.heap.size<=b∧Fresh w' b 0∧Ext w w':=by
 go_enter func241,ntmps241
 go_wp2_with (at_builtin;go_loud (refine ZQ rfl _ _ 141 9 (.string ⟨#[]⟩) 16 rfl underlying141 Zh9 rfl QhP w.heap.size _ [] rfl (Own.nil _ _ _) bx 0 4 4 (ABBA.map encS) rfl rfl ?_ ?_ QhP (ZmK _) ?_))
 ·intro j u hj
  match j with
  |0=>simp[ABBA]at hj;subst hj;exact h0
  |1=>simp[ABBA]at hj;subst hj;exact h1
  |2=>simp[ABBA]at hj;subst hj;exact h2
  |3=>simp[ABBA]at hj;subst hj;exact h3
  |j+4=>simp[ABBA]at hj
 ·intro u hu;simp only[ABBA,ZnU,ZoU,Zn8,Zoy,ZpD]at hu;rcases hu with h|h|h|h<;>rw[h]<;>rfl
 intro v5 w5 hown hg hat
 obtain⟨a5,c5,rfl⟩:=hown.sl.form
 rw[show(ABBA.map encS).length=4 from rfl]at*
 have hx5:Ext w w5:=(Ext.refl w).ofGrown hg (by intro k hk;simp[Value.ownBlock]at hk)
 have hlow:=Zoe hown
 have hsl:=SlN.ofOwn hown
 clear hg hat hown
 go_wp2
 go_ret
 refine⟨w5.heap.size,rfl,hx5.size,⟨_,heap_alloc_last w5 _,(hsl.mono (ZmP _)).ext ((Ext.refl w5).alloc _),fun h=> ?_⟩,hx5.alloc _⟩
 have:=(hlow _ h).2
 omega
def swpB (i:Nat):Nat:=if i=65 then 66 else if i=66 then 65 else i
theorem Zhn (b:Nat) (w:World) (m:Int) (hF:Fresh w b m):
 Calls prog 276 #[.pointer (some ⟨b,0,none⟩)] w fun e w'=>∃br,e=.returned (.iface 329 (.pointer (some ⟨br,0,none⟩)))∧w.heap.size<=br∧w'.rowIs br 328 256 (fun i=>.int .u8 (swpB i:Int))∧Ext w w':=by
 obtain⟨v,hbk,hsl,hne⟩:=hF
 have c4:w.cell? ⟨b,4,none⟩=some v:=by simp[World.cell?,hbk]
 obtain⟨a0,c0,rfl⟩:=hsl.1.form
 rw[show(ABBA.map encS).length=4 from rfl]at*
 have k0:=hsl.1.at_ (k:=0) QhP
 have k1:=hsl.1.at_ (k:=1) QhP
 have k2:=hsl.1.at_ (k:=2) QhP
 have k3:=hsl.1.at_ (k:=3) QhP
 obtain⟨bx,off,rfl,hlt,k0⟩:=k0
 obtain⟨_,_,e1,_,k1⟩:=k1
 obtain⟨_,_,e2,_,k2⟩:=k2
 obtain⟨_,_,e3,_,k3⟩:=k3
 cases e1;cases e2;cases e3
 simp only[ABBA,ZnU,ZoU,List.getElem_cons_zero,List.getElem_cons_succ,encS,Zoc]at k0 k1 k2 k3
 obtain⟨SA,hSA⟩:∃SA,(⟨#[65]⟩:ByteArray)=SA:=⟨_,rfl⟩
 obtain⟨SB,hSB⟩:∃SB,(⟨#[66]⟩:ByteArray)=SB:=⟨_,rfl⟩
 have hA1:SA.size=1:=by rw[<-hSA];rfl
 have hB1:SB.size=1:=by rw[<-hSB];rfl
 have hA0:SA[0]=65:=by subst hSA;rfl
 have hB0:SB[0]=66:=by subst hSB;rfl
 have k0:w.cell? ⟨bx,off,none⟩=some (.string SA):=by rw[<-hSA];exact k0
 have k1:w.cell? ⟨bx,off+1,none⟩=some (.string SB):=by rw[<-hSB];exact k1
 have k2:w.cell? ⟨bx,off+2,none⟩=some (.string SB):=by rw[<-hSB];exact k2
 have k3:w.cell? ⟨bx,off+3,none⟩=some (.string SA):=by rw[<-hSA];exact k3
 clear hsl hne hbk hSA hSB
 go_enter func276,ntmps276
 go_wp2_with fail
 go_loop [5,4] (fun i a=>a=.bool true∧(i=.int .i64 0∨i=.int .i64 2∨i=.int .i64 4)) (fun i _=>4-(intOf i).toNat)
 case atStart=>exact⟨rfl,.inl rfl⟩
 case round=>obtain⟨rfl,hrel⟩:=hrel;rcases hrel with rfl|rfl|rfl;(·go_wp2;go_round;(case rel=>exact⟨rfl,.inr (.inl rfl)⟩);case measure=>simp[intOf]);(·go_wp2;go_round;(case rel=>exact⟨rfl,.inr (.inr rfl)⟩);case measure=>simp[intOf]);·have hzs:Tryz.zeroCells328.size=256:=Qdu;have hz1:Tryz.zeroCells328.all (·.oneCell')=true:=Qdu;have hst:=run_storeCells_new (P:=prog) w 328 Tryz.zeroCells328 Tryz.zeroCells328 (by rw[hzs];kernel_rfl) rfl hz1;have hrow0:(w.alloc (.cells Tryz.zeroCells328 328)).rowIs w.heap.size 328 256 (fun _=>.int .u8 0):=(by have:=ZpS w Tryz.zeroCells328 328 (fun _=>.int .u8 0) (fun i hi=>by have h:Tryz.zeroCells328=Array.replicate 256 (.int .u8 0):=Qdu;rw[hzs]at hi;rw[h];simp[hi]);rw[hzs]at this;exact QeN);have HROW0:=ZmE hrow0;have HK:=ZmE (fun(w':World) (hx:Ext w w')=>And.intro ((hx.cell (p:=⟨bx,off,none⟩) hlt).trans k0) (And.intro ((hx.cell (p:=⟨bx,off+1,none⟩) hlt).trans k1) (And.intro ((hx.cell (p:=⟨bx,off+2,none⟩) hlt).trans k2) ((hx.cell (p:=⟨bx,off+3,none⟩) hlt).trans k3))));clear hz1 hzs hrow0 c4 k0 k1 k2 k3;go_wp2_with fail;go_loopw [61] (fun i wr=>∃k:Nat,k<=256∧i=.int .i64 (k:Int)∧wr.rowIs w.heap.size 328 256 (fun j=>if j<k then .int .u8 (j:Int)else .int .u8 0)∧Ext w wr) (fun i _=>256-(intOf i).toNat);(case atStart=>exact⟨0,by omega,rfl,HROW0.out.congr (fun i _=>by simp),Xe⟩);case round=>obtain⟨k,hk,rfl,hrow,hxr⟩:=hrel;by_cases hlk:k<256;(·have hcl:=hrow.cell hlk;have hfz:=hrow.frozen k;have HR:=ZmE ((hrow.set k (.int .u8 (k:Int))).congr (g:=fun j=>if j<k+1 then .int .u8 (j:Int)else .int .u8 0) (fun j hj=>by by_cases h1:j=k;(·subst h1;rw[ZmH rfl,ZmH QhN]);·rw[ZmF h1];by_cases h2:j<k;(·exact QcG);·rw[ZmF h2,ZmF QhN]));have HX:=ZmE (hxr.setCell (p:=⟨w.heap.size,k,none⟩) (ZmK _) (.int .u8 (k:Int)));clear hrow hxr;go_wp2;go_roundw;(case rel=>exact⟨k+1,by omega,by go_num,HR.out,HX.out⟩);case measure=>exact Q8);·obtain rfl:k=256:=QhN;have HID:Hid (wr.rowIs w.heap.size 328 256 (fun j=>.int .u8 (j:Int))):=ZmE (hrow.congr (fun i hi=>by rw[ZmH hi]));clear hrow hk hlk;go_wp2_with fail;go_loopw [8] (fun i wr=>((i=.int .i64 2∧wr.rowIs w.heap.size 328 256 (fun j=>.int .u8 (j:Int)))∨(i=.int .i64 0∧wr.rowIs w.heap.size 328 256 (fun j=>.int .u8 ((if j=66 then 65 else j:Nat):Int)))∨(i=.int .i64 (-2)∧wr.rowIs w.heap.size 328 256 (fun j=>.int .u8 (swpB j:Int))))∧Ext w wr) (fun i _=>(match i with| .int _ m=>(m+2).toNat|_=>0));(case atStart=>exact⟨.inl ⟨rfl,HID.out⟩,hxr⟩);case round=>clear hxr;obtain⟨hrel,hxr⟩:=hrel;obtain⟨k0,k1,k2,k3⟩:=HK.out _ hxr;rcases hrel with⟨rfl,hrow⟩|⟨rfl,hrow⟩|⟨rfl,hrow⟩;(·have hfz:=hrow.frozen 66;have hcl:=hrow.cell (i:=66) QhP;have HR:=ZmE ((hrow.set 66 (.int .u8 65)).congr (g:=fun j=>.int .u8 ((if j=66 then 65 else j:Nat):Int)) (fun j hj=>by by_cases h:j=66;(·subst h;rfl);·rw[ZmF h,ZmF h]));have HX:=ZmE (hxr.setCell (p:=⟨w.heap.size,66,none⟩) (ZmK _) (.int .u8 65));clear hrow hxr;go_wp2;go_roundw;(case rel=>exact⟨.inr (.inl ⟨rfl,HR.out⟩),HX.out⟩);case measure=>simp);(·have hfz:=hrow.frozen 65;have hcl:=hrow.cell (i:=65) QhP;have HR:=ZmE ((hrow.set 65 (.int .u8 66)).congr (g:=fun j=>.int .u8 (swpB j:Int)) (fun j hj=>by by_cases h:j=65;(·subst h;rfl);·rw[ZmF h];unfold swpB;rw[ZmF h]));have HX:=ZmE (hxr.setCell (p:=⟨w.heap.size,65,none⟩) (ZmK _) (.int .u8 66));clear hrow hxr;go_wp2;go_roundw;(case rel=>exact⟨.inr (.inr ⟨rfl,HR.out⟩),HX.out⟩);case measure=>simp);·clear k0 k1 k2 k3;go_wp2;go_ret;exact⟨w.heap.size,rfl,ZmK _,hrow,hxr⟩
theorem Zly (w:World):(binOp .eql 90 (.slice none 0 0) (.slice none 0 0)).run prog w=.ok (.bool true) w:=by first|kernel_rfl|simp[binOp,go_sem]
theorem Zlz (b n c:Nat) (w:World):(binOp .eql 90 (.slice (some ⟨b,0,none⟩) n c) (.slice none 0 0)).run prog w=.ok (.bool false) w:=by first|kernel_rfl|simp[binOp,go_sem]
def BufAt (w:World) (b n:Nat) (f:Nat->Value):Prop:=b<w.heap.size∧∀j,j<n->w.cell? ⟨b,j,none⟩=some (f j)∧w.frozen? ⟨b,j,none⟩=false
theorem BufAt.set {w:World} {b n:Nat} {f:Nat->Value} (h:BufAt w b n f) (k:Nat) (u:Value):BufAt (w.setCell ⟨b,k,none⟩ u) b n (fun j=>if j=k then u else f j):=by
 refine⟨by simpa using h.1,fun j hj=>⟨?_,by simpa using(h.2 j hj).2⟩⟩;by_cases e:j=k;·subst e;show _=some (if j=j then u else f j);rw[ZmH rfl];exact World.cell?_setCell_same _ _ _ (h.2 j hj).1
 ·show _=some (if j=k then u else f j);rw[ZmF e,Zo7 _ _ _ _ (fun h=>e (by injection h with _ h;exact h.symm))];exact(h.2 j hj).1
theorem Ziw (s:ByteArray) (w:World):∃cap W,(convert 9 90 (.string s)).run prog w=.ok (.slice (some ⟨w.heap.size,0,none⟩) s.size cap) W∧Ext w W∧BufAt W w.heap.size s.size (fun j=>encB (s.data.toList.getD j 0)):=by
 refine⟨_,_,Lib.run_convert_string_bytes w 9 90 5 s underlying9 underlying90 underlying5,?_,?_,fun j hj=>⟨?_,?_⟩⟩;·refine⟨rfl,rfl,rfl,by rw[Lib.bytesWorld_size];omega,fun i hi=>Lib.bytesWorld_at_old w _ s i hi⟩
 ·rw[Lib.bytesWorld_size];omega
 ·exact Lib.bytesWorld_cell w _ s j hj
 ·have h1:=Lib.bytesWorld_at_new w 5 s;have h2:j<(Lib.bytesCells w 5 s).size:=(by unfold Lib.bytesCells;simp;have:s.data.size=s.size:=rfl;omega);simp[World.frozen?,h1];omega
def swpU (c:UInt8):UInt8:=if c=65 then 66 else 65
theorem Zbd (br:Nat) (s:ByteArray) (w:World) (hrow:w.rowIs br 328 256 (fun i=>.int .u8 (swpB i:Int))) (hs:∀c∈s.data.toList,c=65∨c=66) (h0:0<s.size) (hn:s.size<=1000):
 Calls prog 383 #[.pointer (some ⟨br,0,none⟩),.string s] w fun e w'=>e=.returned (.string ⟨(s.data.toList.map swpU).toArray⟩)∧Ext w w':=by
 have HROW:=ZmE hrow
 have HS:=ZmE hs
 clear hrow hs
 go_enter func383,ntmps383
 have HC:Hid (∀w',Ext w w'->w'.cell? ⟨br,65,none⟩=some (.int .u8 66)∧w'.cell? ⟨br,66,none⟩=some (.int .u8 65)):=ZmE (fun w' hx=>
  ⟨(hx.cell (p:=⟨br,65,none⟩) HROW.out.lt).trans (HROW.out.cell (i:=65) QhP),(hx.cell (p:=⟨br,66,none⟩) HROW.out.lt).trans (HROW.out.cell (i:=66) QhP)⟩)
 have hnil:=Zly
 have hnn:=Zlz
 go_wp2_with fail
 go_loopw [6,5] (fun i u wr=>(i=.int .i64 0∧u=.slice none 0 0∧w=wr)∨∃(k cap:Nat),1<=k∧k<=s.size∧i=.int .i64 (k:Int)∧u=.slice (some ⟨w.heap.size,0,none⟩) s.size cap∧BufAt wr w.heap.size s.size (fun j=>encB (if j<k then swpU (s.data.toList.getD j 0)else s.data.toList.getD j 0))∧Ext w wr) (fun i _ _=>s.size-(intOf i).toNat)
 case atStart=>exact .inl ⟨rfl,rfl,rfl⟩
 case round=>rcases hrel with⟨rfl,rfl,rfl⟩|⟨k,cap,hk1,hk,rfl,rfl,hbuf,hxr⟩;(·obtain⟨k0,k1⟩:=HC.out _ (Ext.refl w);obtain⟨cap,W,hcv,hxW,hbuf⟩:=Ziw s w;obtain⟨k2,k3⟩:=HC.out _ hxW;have hcl:=(hbuf.2 0 h0).1;have hfz:=(hbuf.2 0 h0).2;have HG:Hid (s.data.toList.getD 0 0=s[0]):=ZmE QiL;have HR:Hid (∀d:UInt8,swpU s[0]=d->BufAt (W.setCell ⟨w.heap.size,0,none⟩ (.int .u8 (d.toNat:Int))) w.heap.size s.size (fun j=>encB (if j<1 then swpU (s.data.toList.getD j 0)else s.data.toList.getD j 0))):=ZmE (fun d hd=>by have h1:=hbuf.set 0 (.int .u8 (d.toNat:Int));refine⟨h1.1,fun j hj=>⟨(h1.2 j hj).1.trans ?_,(h1.2 j hj).2⟩⟩;dsimp only;by_cases e:j=0;(·subst e;rw[ZmH rfl,ZmH QhN,HG.out,hd];rfl);·rw[ZmF e,ZmF QhN]);have HX:=ZmE (fun u=>hxW.setCell (p:=⟨w.heap.size,0,none⟩) (ZmK _) u);have hc:=HS.out s[0] (Zj s 0 h0);clear hbuf;rcases hc with hc|hc;(·have HR1:=ZmE (HR.out 66 QiA);have hcn:s[0].toNat=65:=QiA;exact QdE);·have HR1:=ZmE (HR.out 65 QiA);have hcn:s[0].toNat=66:=QiA;exact QdE);·by_cases hlt:k<s.size;(·obtain⟨k0,k1⟩:=HC.out _ hxr;have hcl:=(hbuf.2 k hlt).1;have hfz:=(hbuf.2 k hlt).2;have HG:Hid (s.data.toList.getD k 0=s[k]):=ZmE Qkd;have HR:Hid (∀d:UInt8,swpU s[k]=d->BufAt (wr.setCell ⟨w.heap.size,k,none⟩ (.int .u8 (d.toNat:Int))) w.heap.size s.size (fun j=>encB (if j<k+1 then swpU (s.data.toList.getD j 0)else s.data.toList.getD j 0))):=ZmE (fun d hd=>by have h1:=hbuf.set k (.int .u8 (d.toNat:Int));refine⟨h1.1,fun j hj=>⟨(h1.2 j hj).1.trans ?_,(h1.2 j hj).2⟩⟩;dsimp only;by_cases e:j=k;(·subst e;rw[ZmH rfl,ZmH QhN,HG.out,hd];rfl);·rw[ZmF e];by_cases h2:j<k;(·exact QcG);·rw[ZmF h2,ZmF QhN]);have HX:=ZmE (fun u=>hxr.setCell (p:=⟨w.heap.size,k,none⟩) (ZmK _) u);have hc:=HS.out s[k] (Zj s k hlt);clear hbuf hxr;rcases hc with hc|hc;(·have HR1:=ZmE (HR.out 66 QiA);have hcn:s[k].toNat=65:=QiA;exact Qds);·have HR1:=ZmE (HR.out 65 QiA);have hcn:s[k].toNat=66:=QiA;exact Qds);·obtain rfl:k=s.size:=QhN;have hsl:Sl wr (.slice (some ⟨w.heap.size,0,none⟩) s.size cap) ((s.data.toList.map swpU).map encB):=(by have hlen:((s.data.toList.map swpU).map encB).length=s.size:=(by rw[ZmI,ZmI,Zb]);refine .inr ⟨_,0,cap,by rw[hlen],hbuf.1,fun i hi=> ?_⟩;rw[hlen]at hi;rw[Zoa,(hbuf.2 i hi).1];dsimp only;rw[ZmH hi,Znm,Znm,ZmL,ZmG (by rw[Zb];exact hi)];rfl);have hcv:=Zl hsl;clear hlt hk hbuf hsl;go_wp2;go_ret;exact⟨rfl,hxr⟩
theorem Zk {w:World} {b i:Nat} {cs:Array Value} {t:TypeId} {fr:Nat×Nat} {u:Value} (h:w.heap[b]? =some (.cells cs t fr)):(w.setCell ⟨b,i,none⟩ u).heap[b]? =some (.cells (cs.setIfInBounds i u) t fr):=by simp[World.setCell,ZoO,h]
theorem Z5 (w:World) (b i:Nat) (u:Value):w.grownBy (w.setCell ⟨b,i,none⟩ u) (some b):=by refine⟨rfl,rfl,rfl,by simp,fun k hk hne=> ?_⟩;have:k≠b:=fun e=>hne (by rw[e]);simp[World.setCell,ZoO,Ne.symm this]
theorem Zw {w:World} {b i:Nat} {cs:Array Value} {t:TypeId} {x:Value} (h:w.heap[b]? =some (.cells cs t (0,0))) (hx:cs[i]? =some x):w.cell? ⟨b,i,none⟩=some x:=by simp[World.cell?,h,hx]
theorem ZB {w:World} {b i:Nat} {cs:Array Value} {t:TypeId} (h:w.heap[b]? =some (.cells cs t (0,0))):w.frozen? ⟨b,i,none⟩=false:=by simp[World.frozen?,h]
def RepAt (w:World) (b:Nat) (d m:Int) (i v:Value):Prop:=w.heap[b]? =some (.cells #[.int .u32 d,.int .i32 m,.int .u32 0,i,v] 310 (0,0))
def repI (br:Nat):Value:=.iface 329 (.pointer (some ⟨br,0,none⟩))
theorem Zed (b:Nat) (w:World) (m:Int) (hF:Fresh w b m):
 Calls prog 269 #[.pointer (some ⟨b,0,none⟩)] w fun e w'=>e=.returned (.tuple #[])∧∃br,w.heap.size<=br∧w'.rowIs br 328 256 (fun i=>.int .u8 (swpB i:Int))∧RepAt w' b 0 m (repI br) (.slice none 0 0)∧w.grownBy w' (some b):=by
 have HB:=ZmE (Zhn b w m hF)
 obtain⟨v,hbk,_,_⟩:=hF
 have hlt:b<w.heap.size:=(Znn.1 hbk).1
 go_enter func269,ntmps269
 go_wp2_with fail
 refine HB.out.mono ?_
 rintro e w1 ⟨br,rfl,hbr,hrow,hx1⟩
 have hbk1:w1.heap[b]? =_:=(hx1.block b hlt).trans hbk
 have c3:=Zw hbk1 (i:=3) rfl
 have c4:=Zw hbk1 (i:=4) rfl
 have f3:=ZB hbk1 (i:=3)
 have f4:=ZB hbk1 (i:=4)
 have h1:=Zk (i:=3) (u:=repI br) hbk1
 have h2:=Zk (i:=4) (u:=.slice none 0 0) h1
 have hg:w.grownBy ((w1.setCell ⟨b,3,none⟩ (repI br)).setCell ⟨b,4,none⟩ (.slice none 0 0)) (some b):=by have g1:=Z5 w1 b 3 (repI br);have g2:=Z5 (w1.setCell ⟨b,3,none⟩ (repI br)) b 4 (.slice none 0 0);refine⟨hx1.os,hx1.tape,hx1.output,by simpa using hx1.size,fun k hk hne=> ?_⟩;have hk1:k<w1.heap.size:=Znc hk hx1.size;rw[g2.block k (by simpa using hk1) hne,g1.block k hk1 hne];exact hx1.block k hk
 have hrw:((w1.setCell ⟨b,3,none⟩ (repI br)).setCell ⟨b,4,none⟩ (.slice none 0 0)).rowIs br 328 256 (fun i=>.int .u8 (swpB i:Int)):=by refine hrow.of_block ?_;have g1:=Z5 w1 b 3 (repI br);have g2:=Z5 (w1.setCell ⟨b,3,none⟩ (repI br)) b 4 (.slice none 0 0);have hne:some br≠some b:=Qcm;rw[g2.block br (by simpa using hrow.lt) hne,g1.block br hrow.lt hne]
 have H:=ZmE (And.intro h2 (And.intro hg hrw))
 clear hbk hbk1 h1 h2 hg hrw hrow hx1
 unfold repI at H
 go_wp2
 go_end0
 exact⟨rfl,br,hbr,H.out.2.2,H.out.1,H.out.2.1⟩
theorem ZdB (a:Addr) (x:Value) (u:FrameMode) (w:World) (hc:w.cell? a=some x) (hz:w.frozen? a=false):
 CallsD prog 290 #[.pointer (some a),.bool true] u w fun e u' w'=>u'=u∧(e=.returned (.tuple #[])∧w'=w.drew.setCell a (.int .u32 1)):=by
 have hc':w.drew.cell? a=some x:=by go_simp
 have hz':w.drew.frozen? a=false:=by go_simp
 have hst:=run_call_store (P:=prog) func297 QhO QhO QhO QhO (k:=.u32) (y:=1) hc' hz'
 go_enter_d func290,ntmps290
 go_wp2
 go_region_calls
 all_goals(go_end0;exact⟨rfl,rfl⟩)
theorem ZcE (a:Addr) (x:Int) (hx:x=0∨x=1) (w:World) (hc:w.cell? a=some (.int .u32 x)):
 Calls prog 274 #[.pointer (some a)] w fun e w'=>e=.returned (.bool (x !=0))∧w=w':=by
 have hl:=run_call_load (P:=prog) func287 QhO QhO QhO .u32 QhO (w:=w) (a:=a) (x:=x) hc
 rcases hx with rfl|rfl
 ·go_enter func274,ntmps274;exact QaU
 ·go_enter func274,ntmps274;exact QaU
theorem Zg0 (b:Nat) (w:World) (hF:Fresh w b 0):
 Calls prog 275 #[.pointer (some ⟨b,0,none⟩),.func (.func 269) #[.pointer (some ⟨b,0,none⟩)] #[]] w fun e w'=>e=.returned (.tuple #[])∧∃br,w.heap.size<=br∧w'.rowIs br 328 256 (fun i=>.int .u8 (swpB i:Int))∧RepAt w' b 1 0 (repI br) (.slice none 0 0)∧w.grownBy w' (some b):=by
 obtain⟨v,hbk,hsl,hne⟩:=hF
 have hlt:b<w.heap.size:=(Znn.1 hbk).1
 have c1:=Zw hbk (i:=1) rfl
 have f1:=ZB hbk (i:=1)
 have h1:=Zk (i:=1) (u:=.int .i32 1) hbk
 have g1:=Z5 w b 1 (.int .i32 1)
 have hF1:Fresh (w.setCell ⟨b,1,none⟩ (.int .i32 1)) b 1:=by refine⟨v,h1,?_,hne⟩;exact(Beside.grow (v:=.slice (some ⟨b,0,none⟩) 1 1) (v':=.slice (some ⟨b,0,none⟩) 1 1) (by simpa[Value.ownBlock]using g1) w.heap.size (ZmK _) (.inl rfl) 0 v _ hsl (.inr (by simp[Value.ownBlock];exact fun e=>hne e.symm))).1
 have HB:=ZmE (Zed b _ 1 hF1)
 have HL:=ZmE (ZcE ⟨b,0,none⟩ 0 (.inl rfl) _ (Zw h1 (i:=0) rfl))
 have hnot:∀(x:Bool) (w:World),(Op.unary .not (.bool x)).run prog w=.ok (.bool (!x)) w:=fun _ _=>rfl
 go_enter_defers func275,ntmps275
 go_wp2_with (go_at_call 288;refine(lock_free muLib ⟨b,1,none⟩ _ c1 f1).mono ?_;rintro e w' ⟨rfl,rfl⟩)
 refine HL.out.mono ?_
 rintro e w1 ⟨rfl,rfl⟩
 go_wp2_with fail
 refine HB.out.mono ?_
 rintro e w2 ⟨rfl,br,hbr,hrow,hrep,hg⟩
 have q0:=Zw hrep (i:=0) rfl
 have q1:=Zw hrep (i:=1) rfl
 have z0:=ZB hrep (i:=0)
 have z1:=ZB hrep (i:=1)
 have hrep2:=Zk (i:=0) (u:=.int .u32 1) (show w2.drew.heap[b]? =_ from hrep)
 have q1':=Zw hrep2 (i:=1) rfl
 have z1':=ZB hrep2 (i:=1)
 have hrep3:=Zk (i:=1) (u:=.int .i32 0) hrep2
 have hsz:(w.setCell ⟨b,1,none⟩ (.int .i32 1)).heap.size=w.heap.size:=by simp
 rw[hsz]at hbr
 have g2:=Z5 w2.drew b 0 (.int .u32 1)
 have g3:=Z5 (w2.drew.setCell ⟨b,0,none⟩ (.int .u32 1)) b 1 (.int .i32 0)
 have hrw:((w2.drew.setCell ⟨b,0,none⟩ (.int .u32 1)).setCell ⟨b,1,none⟩ (.int .i32 0)).rowIs br 328 256 (fun i=>.int .u8 (swpB i:Int)):=by refine hrow.of_block ?_;have hne:some br≠some b:=Qcm;rw[g3.block br (by simpa using hrow.lt) hne,g2.block br hrow.lt hne];rfl
 have hgg:w.grownBy ((w2.drew.setCell ⟨b,0,none⟩ (.int .u32 1)).setCell ⟨b,1,none⟩ (.int .i32 0)) (some b):=by have hw2:w.heap.size<=w2.heap.size:=(by have:=hg.size;rw[hsz]at this;exact QeN);refine⟨hg.os.trans g1.os,hg.tape.trans g1.tape,hg.output.trans g1.output,by simpa using hw2,fun k hk hne=> ?_⟩;have hk2:k<w2.heap.size:=Znc hk hw2;rw[g3.block k (by simpa using hk2) hne,g2.block k hk2 hne];exact(hg.block k (by rw[hsz];exact hk) hne).trans (g1.block k hk hne)
 have H:=ZmE (And.intro hrep3 (And.intro hgg hrw))
 go_wp2
 refine leaves_cons (f:=290) (args:= #[.pointer (some ⟨b,0,none⟩),.bool true]) QhQ (by simp[go_sem]) ?_
 refine(ZdB ⟨b,0,none⟩ (.int .u32 0) .returning _ q0 z0).mono ?_
 rintro e u' w'' ⟨rfl,rfl,rfl⟩
 refine leaves_cons (f:=289) (args:= #[.pointer (some ⟨b,1,none⟩)]) (by simp[settle]) (by simp[go_sem]) ?_
 refine(unlock_deferred muLib ⟨b,1,none⟩ _ _ q1' z1').mono ?_
 rintro e u' w'' ⟨rfl,rfl,rfl⟩
 exact⟨_,Zq9 rfl _ _ _,rfl,br,hbr,H.out.2.2,H.out.1,H.out.2.1⟩
theorem ZiA (b:Nat) (w:World) (hF:Fresh w b 0):
 Calls prog 268 #[.pointer (some ⟨b,0,none⟩),.func (.func 269) #[.pointer (some ⟨b,0,none⟩)] #[]] w fun e w'=>e=.returned (.tuple #[])∧∃br,w.heap.size<=br∧w'.rowIs br 328 256 (fun i=>.int .u8 (swpB i:Int))∧RepAt w' b 1 0 (repI br) (.slice none 0 0)∧w.grownBy w' (some b):=by
 have HS:=ZmE (Zg0 b w hF)
 obtain⟨v,hbk,_,_⟩:=hF
 have HL:=ZmE (ZcE ⟨b,0,none⟩ 0 (.inl rfl) w (Zw hbk (i:=0) rfl))
 clear hbk
 go_enter func268,ntmps268
 go_wp2_with fail
 refine HL.out.mono ?_
 rintro e w1 ⟨rfl,rfl⟩
 go_wp2_with fail
 refine HS.out.mono ?_
 rintro e w2 ⟨rfl,hh⟩
 go_wp2
 go_end0
 exact⟨rfl,hh⟩
theorem Zi9 (b br:Nat) (f:Value) (w:World) (hR:RepAt w b 1 0 (repI br) (.slice none 0 0)):
 Calls prog 268 #[.pointer (some ⟨b,0,none⟩),f] w fun e w'=>e=.returned (.tuple #[])∧w=w':=by
 have HL:=ZmE (ZcE ⟨b,0,none⟩ 1 (.inr rfl) w (Zw hR (i:=0) rfl))
 clear hR
 go_enter func268,ntmps268
 go_wp2_with fail
 refine HL.out.mono ?_
 rintro e w1 ⟨rfl,rfl⟩
 go_wp2
 go_end0
 exact⟨rfl,rfl⟩
theorem ZeL (v:Value) (w:World):(method 505 329 v "Replace").run prog w=.ok (383,v) w:=Qdu
theorem Zer (b:Nat) (s:ByteArray) (w:World) (hF:Fresh w b 0) (hs:∀c∈s.data.toList,c=65∨c=66) (h0:0<s.size) (hn:s.size<=1000):
 Calls prog 242 #[.pointer (some ⟨b,0,none⟩),.string s] w fun e w'=>e=.returned (.string ⟨(s.data.toList.map swpU).toArray⟩)∧∃br,w.heap.size<=br∧w'.rowIs br 328 256 (fun i=>.int .u8 (swpB i:Int))∧RepAt w' b 1 0 (repI br) (.slice none 0 0)∧w.grownBy w' (some b):=by
 have HD:=ZmE (ZiA b w hF)
 have HB:=ZmE (fun br w' hrow=>Zbd br s w' hrow hs h0 hn)
 clear hs hF
 go_enter func242,ntmps242
 go_wp2_with fail
 refine HD.out.mono ?_
 rintro e w1 ⟨rfl,br,hbr,hrow,hrep,hg⟩
 have c3:=Zw hrep (i:=3) rfl
 unfold repI at c3
 have hm:=ZeL
 go_wp2_with fail
 refine(HB.out br w1 hrow).mono ?_
 rintro e w2 ⟨rfl,hx2⟩
 have hrow2:=Ext.rowX hrow hx2
 have hrep2:RepAt w2 b 1 0 (repI br) (.slice none 0 0):=(hx2.block b (Znn.1 hrep).1).trans hrep
 have hg2:w.grownBy w2 (some b):=⟨hx2.os.trans hg.os,hx2.tape.trans hg.tape,hx2.output.trans hg.output,ZnF hg.size hx2.size,fun k hk hne=>(hx2.block k (Znc hk hg.size)).trans (hg.block k hk hne)⟩
 clear hrow hrep hg
 go_wp2
 go_ret
 exact⟨rfl,br,hbr,hrow2,hrep2,hg2⟩
theorem Zeq (b br:Nat) (s:ByteArray) (w:World) (hrow:w.rowIs br 328 256 (fun i=>.int .u8 (swpB i:Int))) (hrep:RepAt w b 1 0 (repI br) (.slice none 0 0)) (hs:∀c∈s.data.toList,c=65∨c=66) (h0:0<s.size) (hn:s.size<=1000):
 Calls prog 242 #[.pointer (some ⟨b,0,none⟩),.string s] w fun e w'=>e=.returned (.string ⟨(s.data.toList.map swpU).toArray⟩)∧Ext w w':=by
 have HD:=ZmE (fun f=>Zi9 b br f w hrep)
 have HB:=ZmE (Zbd br s w hrow hs h0 hn)
 have c3:=Zw hrep (i:=3) rfl
 unfold repI at c3
 have hm:=ZeL
 clear hs hrow hrep
 go_enter func242,ntmps242
 go_wp2_with fail
 refine(HD.out _).mono ?_
 rintro e w1 ⟨rfl,rfl⟩
 go_wp2_with fail
 refine HB.out.mono ?_
 rintro e w2 ⟨rfl,hx2⟩
 go_wp2
 go_ret
 exact⟨rfl,hx2⟩
end
end Go.Proofs.YtbngggoccndefaaGreatDoor
namespace Go.Proofs.YtbngggoccndefaaGreatDoor
open Go.Proofs.Tryz
section
open Go.RowKit
def shC (q:List Hp.Sh):List Value:=q.flatMap fun x=>[.int .i64 x.ix,.int .i64 x.md,.int .i64 x.ct]
theorem ZeY:∀(q:List Hp.Sh) (i:Nat) (x:Hp.Sh),q[i]? =some x->(shC q)[i*3]? =some (.int .i64 x.ix)∧(shC q)[i*3+1]? =some (.int .i64 x.md)∧(shC q)[i*3+2]? =some (.int .i64 x.ct):=by
 intro q
 induction q with
 |nil=>intro i x h;simp at h
 |cons y q ih=>
  intro i x h
  cases i with
  |zero=>simp only[Znp,Znl]at h;subst h;exact⟨rfl,rfl,rfl⟩
  |succ i=>rw[Zn2]at h;have:=ih i x h;have e1:(i+1)*3=i*3+1+1+1:=QhN;rw[e1];simp only[shC,Zoo,Zny,Zod,Zn2]at this⊢;exact QeN
theorem ZdA:∀(q:List Hp.Sh) (i:Nat) (x:Hp.Sh),shC (q.set i x)=(((shC q).set (i*3) (.int .i64 x.ix)).set (i*3+1) (.int .i64 x.md)).set (i*3+2) (.int .i64 x.ct):=by
 intro q
 induction q with
 |nil=>intro i x;rfl
 |cons y q ih=>
  intro i x
  cases i with
  |zero=>rfl
  |succ i=>have:=ih i x;have e1:(i+1)*3=i*3+1+1+1:=QhN;rw[e1,ZmV];simp only[shC,Zoo,Zny,Zod,ZmV]at this⊢;rw[this]
theorem ZbC {α:Type} {l:List α} {i:Nat} {x:α} (h:l[i]? =some x):l.set i x=l:=by
 apply ZoX;intro k;by_cases e:i=k;·subst e;rw[Zoq (ZmN.1 h).1,h]
 ·rw[Zox e]
def QAt (w:World) (g:Nat) (q:List Hp.Sh):Prop:=w.heap[g]? =some (.cells (shC q).toArray 250 (0,0))
theorem QAt.at_ {w:World} {g:Nat} {q:List Hp.Sh} (h:QAt w g q) {i:Nat} {x:Hp.Sh} (hi:q[i]? =some x):
 w.cell? ⟨g,i*3,none⟩=some (.int .i64 x.ix)∧w.cell? ⟨g,i*3+1,none⟩=some (.int .i64 x.md)∧w.cell? ⟨g,i*3+2,none⟩=some (.int .i64 x.ct):=by
 obtain⟨h1,h2,h3⟩:=ZeY q i x hi
 exact⟨Zw h Qim,Zw h Qie,Zw h (by simpa using h3)⟩
theorem QAt.frz {w:World} {g:Nat} {q:List Hp.Sh} (h:QAt w g q) (i:Nat):w.frozen? ⟨g,i,none⟩=false:=ZB h
theorem QAt.lt {w:World} {g:Nat} {q:List Hp.Sh} (h:QAt w g q):g<w.heap.size:=(Znn.1 h).1
theorem QAt.set {w:World} {g:Nat} {q:List Hp.Sh} (h:QAt w g q) (i:Nat) (x:Hp.Sh):QAt (((w.setCell ⟨g,i*3,none⟩ (.int .i64 x.ix)).setCell ⟨g,i*3+1,none⟩ (.int .i64 x.md)).setCell ⟨g,i*3+2,none⟩ (.int .i64 x.ct)) g (q.set i x):=by unfold QAt;rw[ZdA];have:=Zk (i:=i*3+2) (u:=.int .i64 x.ct) (Zk (i:=i*3+1) (u:=.int .i64 x.md) (Zk (i:=i*3) (u:=.int .i64 x.ix) h));rw[this];simp
theorem QAt.setMd {w:World} {g:Nat} {q:List Hp.Sh} (h:QAt w g q) {i:Nat} {x:Hp.Sh} (hi:q[i]? =some x) (m:Int):QAt (w.setCell ⟨g,i*3+1,none⟩ (.int .i64 m)) g (q.set i ⟨x.ix,m,x.ct⟩):=by unfold QAt;obtain⟨h1,_,h3⟩:=ZeY q i x hi;rw[ZdA,Zk (i:=i*3+1) (u:=.int .i64 m) h];dsimp only;rw[ZbC h1,List.set_comm _ _ QhN,ZbC h3];simp
theorem QAt.setCt {w:World} {g:Nat} {q:List Hp.Sh} (h:QAt w g q) {i:Nat} {x:Hp.Sh} (hi:q[i]? =some x) (m:Int):QAt (w.setCell ⟨g,i*3+2,none⟩ (.int .i64 m)) g (q.set i ⟨x.ix,x.md,m⟩):=by unfold QAt;obtain⟨h1,h2,_⟩:=ZeY q i x hi;rw[ZdA,Zk (i:=i*3+2) (u:=.int .i64 m) h];dsimp only;rw[ZbC h1,ZbC h2];simp
theorem GB.setRow {g:Nat} {a w:World} (h:GB (some g) a w) (i:Nat) (u:Value):GB (some g) a (w.setCell ⟨g,i,none⟩ u):=h.trans (Z5 w g i u)
theorem QAt.drew {w:World} {g:Nat} {q:List Hp.Sh} (h:QAt w g q):QAt w.drew g q:=h
theorem QAt.on {w w':World} {g:Nat} {q:List Hp.Sh} (h:QAt w g q) (hx:Ext w w'):QAt w' g q:=by unfold QAt;rw[hx.block g h.lt];exact h
theorem Zgm (a:Option Addr) (n c:Nat) (w:World):Calls prog 371 #[.slice a n c] w fun e w'=>e=.returned (.int .i64 (n:Int))∧Ext w w':=by go_enter func371,ntmps371;go_wp2;go_ret;exact Qcv
theorem ZbE (g n i j:Nat) (q:List Hp.Sh) (x y:Hp.Sh) (w:World) (hq:QAt w g q) (hn:q.length=n) (hi:q[i]? =some x) (hj:q[j]? =some y) (hs:n<=1000000):
 Calls prog 372 #[.slice (some ⟨g,0,none⟩) n n,.int .i64 (i:Int),.int .i64 (j:Int)] w fun e w'=>e=.returned (.bool (Hp.lessS x y))∧Ext w w':=by
 obtain⟨c0,c1,c2⟩:=hq.at_ hi
 obtain⟨d0,d1,d2⟩:=hq.at_ hj
 have hil:=(ZmN.1 hi).1
 have hjl:=(ZmN.1 hj).1
 rw[hn]at hil hjl
 have hiI:(i:Int)<(n:Int):=by omega
 have hjI:(j:Int)<(n:Int):=by omega
 unfold Hp.lessS
 obtain⟨x0,x1,x2⟩:=x
 obtain⟨y0,y1,y2⟩:=y
 dsimp only at c0 c1 c2 d0 d1 d2⊢
 clear hq hn hi hj c1 d1
 by_cases hc:x2=y2
 ·rw[ZmH hc];have z1:(x2 !=y2)=false:=(by simp[hc]);have z2:decide (x2=y2)=true:=ZmR hc;exact QgL
 ·rw[ZmF hc];have z1:(x2 !=y2)=true:=(by simp[hc]);have z2:decide (x2=y2)=false:=ZmS hc;exact QgL
theorem ZcK (g n i j:Nat) (q:List Hp.Sh) (x y:Hp.Sh) (w:World) (hq:QAt w g q) (hn:q.length=n) (hi:q[i]? =some x) (hj:q[j]? =some y) (hij:i≠j) (hs:n<=1000000):
 Calls prog 373 #[.slice (some ⟨g,0,none⟩) n n,.int .i64 (i:Int),.int .i64 (j:Int)] w fun e w'=>e=.returned (.tuple #[])∧QAt w' g (Hp.swap q i j)∧GB (some g) w w':=by
 obtain⟨c0,c1,c2⟩:=hq.at_ hi
 obtain⟨d0,d1,d2⟩:=hq.at_ hj
 have hil:=(ZmN.1 hi).1
 have hjl:=(ZmN.1 hj).1
 rw[hn]at hil hjl
 have hiI:(i:Int)<(n:Int):=by omega
 have hjI:(j:Int)<(n:Int):=by omega
 have f0:=hq.frz (i*3)
 have f1:=hq.frz (i*3+1)
 have f2:=hq.frz (i*3+2)
 have g0:=hq.frz (j*3)
 have g1:=hq.frz (j*3+1)
 have g2:=hq.frz (j*3+2)
 go_enter func373,ntmps373
 go_region
 go_end0
 have h1:=(hq.set i y).set j x
 have e:(q.set i y).set j x=Hp.swap q i j:=by unfold Hp.swap;rw[hi,hj]
 rw[e]at h1
 refine⟨rfl,?_,?_⟩
 ·exact h1.drew
 ·refine GB.drew ?_;(iterate 6 refine GB.setRow ?_ _ _);exact GB.refl w
end
end Go.Proofs.YtbngggoccndefaaGreatDoor
