/-
  Laid.
-/
import Derived.Test.YtbngggoccndefaaGreatDoorLe08
import Derived.Handy
set_option maxHeartbeats 8000000
set_option maxRecDepth 100000
set_option linter.all false
namespace Go.Proofs.Enc
open Go.Proofs.Tryz
section
open Go.RowKit Go.MuLone
abbrev Zoa:Go.Conc.Locks.MuLink:= {lock:=288,unlock:=289,ilock:=295,iunlock:=296,lockSlow:=305,unlockSlow:=308,disable:=301,enable:=303,acquire:=304,relMerge:=306,cas32:=302,add32:=307,tMutex:=304,tIMutex:=302,tPMutex:=335,tPIMutex:=349,tPI32:=351,tUP:=202,tNoCopy:=297,tU32:=257}
def gK:Go.Conc.Locks.MuLib prog Zoa:=
 ⟨func288,func289,func295,func296,func301,func303,func304,func306,func302,func307,underlying302,Tryz.runUnderlying302,Tryz.sizeOf302,Tryz.isAgg302,Tryz.zeroValue302,underlying304,Tryz.runUnderlying304,Tryz.sizeOf304,Tryz.isAgg304,Tryz.zeroValue304,underlying335,Tryz.runUnderlying335,Tryz.sizeOf335,Tryz.isAgg335,Tryz.zeroValue335,underlying349,Tryz.runUnderlying349,Tryz.sizeOf349,Tryz.isAgg349,Tryz.zeroValue349,underlying351,Tryz.runUnderlying351,Tryz.sizeOf351,Tryz.isAgg351,Tryz.zeroValue351,underlying202,Tryz.runUnderlying202,Tryz.sizeOf202,Tryz.isAgg202,Tryz.zeroValue202,underlying297,Tryz.runUnderlying297,Tryz.sizeOf297,Tryz.isAgg297,Tryz.zeroValue297,underlying21,Tryz.runUnderlying21,Tryz.sizeOf21,Tryz.isAgg21,Tryz.zeroValue21,N0⟩
def ABBA:List (List UInt8):=[[65],[66],[66],[65]]
def YZ(w:World)(b:Nat)(m:Int):Prop:=∃v,w.heap[b]? =some (.cells #[.int .u32 0,.int .i32 m,.int .u32 0,.nilIface,v] 310 (0,0))/\SlN w 0 v (ABBA.map encS)/\v.ownBlock≠some b
def ZeM(bx:Nat)(w:World)(h0:w.cell? ⟨bx,0,none⟩=some (.string ⟨#[65]⟩))(h1:w.cell? ⟨bx,1,none⟩=some (.string ⟨#[66]⟩))(h2:w.cell? ⟨bx,2,none⟩=some (.string ⟨#[66]⟩))(h3:w.cell? ⟨bx,3,none⟩=some (.string ⟨#[65]⟩)):
 Calls prog 241 #[.slice (some ⟨bx,0,none⟩) 4 4] w λe w'=>∃b,e=.returned (.pointer (some ⟨b,0,none⟩))/\w.heap.size<=b/\YZ w' b 0/\Ext w w':=by
 go_enter func241,ntmps241;go_wp2_with (at_builtin;go_loud (refine NA rfl _ _ 141 9 (.string ⟨#[]⟩) 16 rfl underlying141 wC rfl I0 w.heap.size _ [] rfl (Own.nil _ _ _) bx 0 4 4 (ABBA.map encS) rfl rfl ?_ ?_ I0 (J0 _) ?_))
 .intro j u hj
  match j with
  |0=>simp[ABBA]at hj;subst hj;exact h0
  |1=>simp[ABBA]at hj;subst hj;exact h1
  |2=>simp[ABBA]at hj;subst hj;exact h2
  |3=>simp[ABBA]at hj;subst hj;exact h3
  |j+4=>simp[ABBA]at hj
 .intro u hu;simp only[ABBA,M4,H7,E2,J4,F4]at hu;rcases hu with h|h|h|h<;>rw[h]<;>rfl
 intro v5 w5 b8 hg La;obtain⟨a5,c5,rfl⟩:=b8.sl.form;rw[show(ABBA.map encS).length=4 from rfl]at*;have j5:Ext w w5:=(Ext.refl w).l8 hg (by intro k hk;simp[Value.ownBlock]at hk);have aBF:=R4 b8;have j8:=SlN.aCm b8;clear hg La b8;go_wp2;go_ret;refine⟨w5.heap.size,rfl,j5.size,⟨_,heap_alloc_last w5 _,(j8.mono (R0 _)).ext ((Ext.refl w5).alloc _),λh=> ?_⟩,j5.alloc _⟩;have:=(aBF _ h).2;omega
def swpB(i:Nat):Nat:=if i=65 then 66 else if i=66 then 65 else i
def Zj0(b:Nat)(w:World)(m:Int)(hF:YZ w b m):
 Calls prog 276 #[.pointer (some ⟨b,0,none⟩)] w λe w'=>∃br,e=.returned (.iface 329 (.pointer (some ⟨br,0,none⟩)))/\w.heap.size<=br/\w'.rowIs br 328 256 (λi=>.int .u8 (swpB i:Int))/\Ext w w':=by
 obtain⟨v,Dt,j8,k7⟩:=hF;have c4:w.cell? ⟨b,4,none⟩=some v:=by simp[World.cell?,Dt]
 obtain⟨a0,c0,rfl⟩:=j8.1.form;rw[show(ABBA.map encS).length=4 from rfl]at*;have k0:=j8.1.at_ (k:=0) I0;have k1:=j8.1.at_ (k:=1) I0;have k2:=j8.1.at_ (k:=2) I0;have k3:=j8.1.at_ (k:=3) I0;obtain⟨bx,off,rfl,hlt,k0⟩:=k0;obtain⟨_,_,e1,_,k1⟩:=k1;obtain⟨_,_,e2,_,k2⟩:=k2;obtain⟨_,_,e3,_,k3⟩:=k3;cases e1;cases e2;cases e3;simp only[ABBA,M4,H7,List.getElem_cons_zero,List.getElem_cons_succ,encS,Nat.add_zero]at k0 k1 k2 k3;obtain⟨SA,hSA⟩:∃SA,(⟨#[65]⟩:ByteArray)=SA:=⟨_,rfl⟩;obtain⟨SB,Vn⟩:∃SB,(⟨#[66]⟩:ByteArray)=SB:=⟨_,rfl⟩;have hA1:SA.size=1:=by rw[<-hSA];rfl
 have hB1:SB.size=1:=by rw[<-Vn];rfl
 have hA0:SA[0]=65:=by subst hSA;rfl
 have hB0:SB[0]=66:=by subst Vn;rfl
 have k0:w.cell? ⟨bx,off,none⟩=some (.string SA):=by rw[<-hSA];exact k0
 have k1:w.cell? ⟨bx,off+1,none⟩=some (.string SB):=by rw[<-Vn];exact k1
 have k2:w.cell? ⟨bx,off+2,none⟩=some (.string SB):=by rw[<-Vn];exact k2
 have k3:w.cell? ⟨bx,off+3,none⟩=some (.string SA):=by rw[<-hSA];exact k3
 clear j8 k7 Dt hSA Vn;go_enter func276,ntmps276;go_wp2_with fail;go_loop [5,4] (λi a=>a=.bool true/\(i=.int .i64 0\/i=.int .i64 2\/i=.int .i64 4)) (λi _=>4-(intOf i).toNat)
 case atStart=>exact⟨rfl,.inl rfl⟩
 case round=>obtain⟨rfl,hrel⟩:=hrel;rcases hrel with rfl|rfl|rfl;(·go_wp2;go_round;(case rel=>exact⟨rfl,.inr (.inl rfl)⟩);case measure=>simp[intOf]);(·go_wp2;go_round;(case rel=>exact⟨rfl,.inr (.inr rfl)⟩);case measure=>simp[intOf]);·have Mr:Tryz.zeroCells328.size=256:=D1;have p8:Tryz.zeroCells328.all (·.oneCell')=true:=D1;have p9:=run_storeCells_new (P:=prog) w 328 Tryz.zeroCells328 Tryz.zeroCells328 (by rw[Mr];kernel_rfl) rfl p8;have aBM:(w.alloc (.cells Tryz.zeroCells328 328)).rowIs w.heap.size 328 256 (λ_=>.int .u8 0):=(by have:=MC w Tryz.zeroCells328 328 (λ_=>.int .u8 0) (λi hi=>by have h:Tryz.zeroCells328=Array.replicate 256 (.int .u8 0):=D1;rw[Mr]at hi;rw[h];simp[hi]);rw[Mr]at this;exact L3);have aEv:=B0 aBM;have HK:=B0 (λ(w':World)(hx:Ext w w')=>And.intro ((hx.cell (p:=⟨bx,off,none⟩) hlt).trans k0) (And.intro ((hx.cell (p:=⟨bx,off+1,none⟩) hlt).trans k1) (And.intro ((hx.cell (p:=⟨bx,off+2,none⟩) hlt).trans k2) ((hx.cell (p:=⟨bx,off+3,none⟩) hlt).trans k3))));clear p8 Mr aBM c4 k0 k1 k2 k3;go_wp2_with fail;go_loopw [61] (λi wr=>∃k:Nat,k<=256/\i=.int .i64 (k:Int)/\wr.rowIs w.heap.size 328 256 (λj=>if j<k then .int .u8 (j:Int)else .int .u8 0)/\Ext w wr) (λi _=>256-(intOf i).toNat);(case atStart=>exact⟨0,by omega,rfl,aEv.out.congr (λi _=>by simp),Xe⟩);case round=>obtain⟨k,hk,rfl,k9,j3⟩:=hrel;by_cases Fu:k<256;(·have x8:=k9.cell Fu;have Gg:=k9.frozen k;have HR:=B0 ((k9.set k (.int .u8 (k:Int))).congr (g:=λj=>if j<k+1 then .int .u8 (j:Int)else .int .u8 0) (λj hj=>by by_cases h1:j=k;(·subst h1;rw[G0 rfl,G0 C0]);·rw[D0 h1];by_cases h2:j<k;(·exact V8);·rw[D0 h2,D0 C0]));have HX:=B0 (j3.setCell (p:=⟨w.heap.size,k,none⟩) (J0 _) (.int .u8 (k:Int)));clear k9 j3;go_wp2;go_roundw;(case rel=>exact⟨k+1,by omega,by go_num,HR.out,HX.out⟩);case measure=>exact QH);·obtain rfl:k=256:=C0;have HID:Hid (wr.rowIs w.heap.size 328 256 (λj=>.int .u8 (j:Int))):=B0 (k9.congr (λi hi=>by rw[G0 hi]));clear k9 hk Fu;go_wp2_with fail;go_loopw [8] (λi wr=>((i=.int .i64 2/\wr.rowIs w.heap.size 328 256 (λj=>.int .u8 (j:Int)))\/(i=.int .i64 0/\wr.rowIs w.heap.size 328 256 (λj=>.int .u8 ((if j=66 then 65 else j:Nat):Int)))\/(i=.int .i64 (-2)/\wr.rowIs w.heap.size 328 256 (λj=>.int .u8 (swpB j:Int))))/\Ext w wr) (λi _=>(match i with| .int _ m=>(m+2).toNat|_=>0));(case atStart=>exact⟨.inl ⟨rfl,HID.out⟩,j3⟩);case round=>clear j3;obtain⟨hrel,j3⟩:=hrel;obtain⟨k0,k1,k2,k3⟩:=HK.out _ j3;rcases hrel with⟨rfl,k9⟩|⟨rfl,k9⟩|⟨rfl,k9⟩;(·have Gg:=k9.frozen 66;have x8:=k9.cell (i:=66) I0;have HR:=B0 ((k9.set 66 (.int .u8 65)).congr (g:=λj=>.int .u8 ((if j=66 then 65 else j:Nat):Int)) (λj hj=>by by_cases h:j=66;(·subst h;rfl);·rw[D0 h,D0 h]));have HX:=B0 (j3.setCell (p:=⟨w.heap.size,66,none⟩) (J0 _) (.int .u8 65));clear k9 j3;go_wp2;go_roundw;(case rel=>exact⟨.inr (.inl ⟨rfl,HR.out⟩),HX.out⟩);case measure=>simp);(·have Gg:=k9.frozen 65;have x8:=k9.cell (i:=65) I0;have HR:=B0 ((k9.set 65 (.int .u8 66)).congr (g:=λj=>.int .u8 (swpB j:Int)) (λj hj=>by by_cases h:j=65;(·subst h;rfl);·rw[D0 h];unfold swpB;rw[D0 h]));have HX:=B0 (j3.setCell (p:=⟨w.heap.size,65,none⟩) (J0 _) (.int .u8 66));clear k9 j3;go_wp2;go_roundw;(case rel=>exact⟨.inr (.inr ⟨rfl,HR.out⟩),HX.out⟩);case measure=>simp);·clear k0 k1 k2 k3;go_wp2;go_ret;exact⟨w.heap.size,rfl,J0 _,k9,j3⟩
def Zoc(w:World):(binOp .eql 90 (.slice none 0 0) (.slice none 0 0)).run prog w=.ok (.bool true) w:=by first|kernel_rfl|simp[binOp,go_sem]
def Zod(b n c:Nat)(w:World):(binOp .eql 90 (.slice (some ⟨b,0,none⟩) n c) (.slice none 0 0)).run prog w=.ok (.bool false) w:=by first|kernel_rfl|simp[binOp,go_sem]
def WX(w:World)(b n:Nat)(f:Nat->Value):Prop:=b<w.heap.size/\∀j,j<n->w.cell? ⟨b,j,none⟩=some (f j)/\w.frozen? ⟨b,j,none⟩=false
def WX.set{w:World}{b n:Nat}{f:Nat->Value}(h:WX w b n f)(k:Nat)(u:Value):WX (w.setCell ⟨b,k,none⟩ u) b n (λj=>if j=k then u else f j):=by
 refine⟨by simpa using h.1,λj hj=>⟨?_,by simpa using(h.2 j hj).2⟩⟩;by_cases e:j=k;·subst e;show _=some (if j=j then u else f j);rw[G0 rfl];exact World.cell?_setCell_same _ _ _ (h.2 j hj).1
 .show _=some (if j=k then u else f j);rw[D0 e,UX _ _ _ _ (λh=>e (by injection h with _ h;exact h.symm))];exact(h.2 j hj).1
def ZkP(s:ByteArray)(w:World):∃cap W,(convert 9 90 (.string s)).run prog w=.ok (.slice (some ⟨w.heap.size,0,none⟩) s.size cap) W/\Ext w W/\WX W w.heap.size s.size (λj=>encB (s.data.toList.getD j 0)):=by
 refine⟨_,_,Lib.run_convert_string_bytes w 9 90 5 s underlying9 underlying90 underlying5,?_,?_,λj hj=>⟨?_,?_⟩⟩;·refine⟨rfl,rfl,rfl,by rw[Lib.bytesWorld_size];omega,λi hi=>Lib.bytesWorld_at_old w _ s i hi⟩
 .rw[Lib.bytesWorld_size];omega
 .exact Lib.bytesWorld_cell w _ s j hj
 .have h1:=Lib.bytesWorld_at_new w 5 s;have h2:j<(Lib.bytesCells w 5 s).size:=(by unfold Lib.bytesCells;simp;have:s.data.size=s.size:=rfl;omega);simp[World.frozen?,h1];omega
def swpU(c:UInt8):UInt8:=if c=65 then 66 else 65
def gL(br:Nat)(s:ByteArray)(w:World)(k9:w.rowIs br 328 256 (λi=>.int .u8 (swpB i:Int)))(hs:∀c∈s.data.toList,c=65\/c=66)(h0:0<s.size)(hn:s.size<=1000):
 Calls prog 383 #[.pointer (some ⟨br,0,none⟩),.string s] w λe w'=>e=.returned (.string ⟨(s.data.toList.map swpU).toArray⟩)/\Ext w w':=by
 have Uz:=B0 k9;have HS:=B0 hs;clear k9 hs;go_enter func383,ntmps383;have HC:Hid (∀w',Ext w w'->w'.cell? ⟨br,65,none⟩=some (.int .u8 66)/\w'.cell? ⟨br,66,none⟩=some (.int .u8 65)):=B0 (λw' hx=>
  ⟨(hx.cell (p:=⟨br,65,none⟩) Uz.out.lt).trans (Uz.out.cell (i:=65) I0),(hx.cell (p:=⟨br,66,none⟩) Uz.out.lt).trans (Uz.out.cell (i:=66) I0)⟩)
 have By:=Zoc;have Of:=Zod;go_wp2_with fail;go_loopw [6,5] (λi u wr=>(i=.int .i64 0/\u=.slice none 0 0/\w=wr)\/∃(k cap:Nat),1<=k/\k<=s.size/\i=.int .i64 (k:Int)/\u=.slice (some ⟨w.heap.size,0,none⟩) s.size cap/\WX wr w.heap.size s.size (λj=>encB (if j<k then swpU (s.data.toList.getD j 0)else s.data.toList.getD j 0))/\Ext w wr) (λi _ _=>s.size-(intOf i).toNat)
 case atStart=>exact .inl ⟨rfl,rfl,rfl⟩
 case round=>rcases hrel with⟨rfl,rfl,rfl⟩|⟨k,cap,Hr,hk,rfl,rfl,Pg,j3⟩;(·obtain⟨k0,k1⟩:=HC.out _ (Ext.refl w);obtain⟨cap,W,Cv,Fa,Pg⟩:=ZkP s w;obtain⟨k2,k3⟩:=HC.out _ Fa;have x8:=(Pg.2 0 h0).1;have Gg:=(Pg.2 0 h0).2;have HG:Hid (s.data.toList.getD 0 0=s[0]):=B0 gM;have HR:Hid (∀d:UInt8,swpU s[0]=d->WX (W.setCell ⟨w.heap.size,0,none⟩ (.int .u8 (d.toNat:Int))) w.heap.size s.size (λj=>encB (if j<1 then swpU (s.data.toList.getD j 0)else s.data.toList.getD j 0))):=B0 (λd hd=>by have h1:=Pg.set 0 (.int .u8 (d.toNat:Int));refine⟨h1.1,λj hj=>⟨(h1.2 j hj).1.trans ?_,(h1.2 j hj).2⟩⟩;dsimp only;by_cases e:j=0;(·subst e;rw[G0 rfl,G0 C0,HG.out,hd];rfl);·rw[D0 e,D0 C0]);have HX:=B0 (λu=>Fa.setCell (p:=⟨w.heap.size,0,none⟩) (J0 _) u);have hc:=HS.out s[0] (Zl s 0 h0);clear Pg;rcases hc with hc|hc;(·have p6:=B0 (HR.out 66 XA);have Vr:s[0].toNat=65:=XA;exact gN);·have p6:=B0 (HR.out 65 XA);have Vr:s[0].toNat=66:=XA;exact gN);·by_cases hlt:k<s.size;(·obtain⟨k0,k1⟩:=HC.out _ j3;have x8:=(Pg.2 k hlt).1;have Gg:=(Pg.2 k hlt).2;have HG:Hid (s.data.toList.getD k 0=s[k]):=B0 jC;have HR:Hid (∀d:UInt8,swpU s[k]=d->WX (wr.setCell ⟨w.heap.size,k,none⟩ (.int .u8 (d.toNat:Int))) w.heap.size s.size (λj=>encB (if j<k+1 then swpU (s.data.toList.getD j 0)else s.data.toList.getD j 0))):=B0 (λd hd=>by have h1:=Pg.set k (.int .u8 (d.toNat:Int));refine⟨h1.1,λj hj=>⟨(h1.2 j hj).1.trans ?_,(h1.2 j hj).2⟩⟩;dsimp only;by_cases e:j=k;(·subst e;rw[G0 rfl,G0 C0,HG.out,hd];rfl);·rw[D0 e];by_cases h2:j<k;(·exact V8);·rw[D0 h2,D0 C0]);have HX:=B0 (λu=>j3.setCell (p:=⟨w.heap.size,k,none⟩) (J0 _) u);have hc:=HS.out s[k] (Zl s k hlt);clear Pg j3;rcases hc with hc|hc;(·have p6:=B0 (HR.out 66 XA);have Vr:s[k].toNat=65:=XA;exact gO);·have p6:=B0 (HR.out 65 XA);have Vr:s[k].toNat=66:=XA;exact gO);·obtain rfl:k=s.size:=C0;have j8:Sl wr (.slice (some ⟨w.heap.size,0,none⟩) s.size cap) ((s.data.toList.map swpU).map encB):=(by have hlen:((s.data.toList.map swpU).map encB).length=s.size:=(by rw[M0,M0,Za]);refine .inr ⟨_,0,cap,by rw[hlen],Pg.1,λi hi=> ?_⟩;rw[hlen]at hi;rw[Nat.zero_add,(Pg.2 i hi).1];dsimp only;rw[G0 hi,B3,B3,F1,P0 (by rw[Za];exact hi)];rfl);have Cv:=Zp j8;clear hlt hk Pg j8;exact DJ
def Zt{w:World}{b i:Nat}{cs:Array Value}{t:TypeId}{fr:Nat×Nat}{u:Value}(h:w.heap[b]? =some (.cells cs t fr)):(w.setCell ⟨b,i,none⟩ u).heap[b]? =some (.cells (cs.setIfInBounds i u) t fr):=by simp[World.setCell,RW,h]
def ZR(w:World)(b i:Nat)(u:Value):w.grownBy (w.setCell ⟨b,i,none⟩ u) (some b):=by refine⟨rfl,rfl,rfl,by simp,λk hk k7=> ?_⟩;have:k≠b:=λe=>k7 (by rw[e]);simp[World.setCell,RW,Ne.symm this]
def Zv{w:World}{b i:Nat}{cs:Array Value}{t:TypeId}{x:Value}(h:w.heap[b]? =some (.cells cs t (0,0)))(hx:cs[i]? =some x):w.cell? ⟨b,i,none⟩=some x:=by simp[World.cell?,h,hx]
def ZX{w:World}{b i:Nat}{cs:Array Value}{t:TypeId}(h:w.heap[b]? =some (.cells cs t (0,0))):w.frozen? ⟨b,i,none⟩=false:=by simp[World.frozen?,h]
def E8(w:World)(b:Nat)(d m:Int)(i v:Value):Prop:=w.heap[b]? =some (.cells #[.int .u32 d,.int .i32 m,.int .u32 0,i,v] 310 (0,0))
def repI(br:Nat):Value:=.iface 329 (.pointer (some ⟨br,0,none⟩))
def ZfK(b:Nat)(w:World)(m:Int)(hF:YZ w b m):
 Calls prog 269 #[.pointer (some ⟨b,0,none⟩)] w λe w'=>e=.returned (.tuple #[])/\∃br,w.heap.size<=br/\w'.rowIs br 328 256 (λi=>.int .u8 (swpB i:Int))/\E8 w' b 0 m (repI br) (.slice none 0 0)/\w.grownBy w' (some b):=by
 have HB:=B0 (Zj0 b w m hF);obtain⟨v,Dt,_,_⟩:=hF;have hlt:b<w.heap.size:=(V3.1 Dt).1;go_enter func269,ntmps269;go_wp2_with fail;refine HB.out.mono ?_;rintro e w1 ⟨br,rfl,Sc,k9,b7⟩;have aAa:w1.heap[b]? =_:=(b7.block b hlt).trans Dt;have c3:=Zv aAa (i:=3) rfl;have c4:=Zv aAa (i:=4) rfl;have f3:=ZX aAa (i:=3);have f4:=ZX aAa (i:=4);have h1:=Zt (i:=3) (u:=repI br) aAa;have h2:=Zt (i:=4) (u:=.slice none 0 0) h1;have hg:w.grownBy ((w1.setCell ⟨b,3,none⟩ (repI br)).setCell ⟨b,4,none⟩ (.slice none 0 0)) (some b):=by have g1:=ZR w1 b 3 (repI br);have g2:=ZR (w1.setCell ⟨b,3,none⟩ (repI br)) b 4 (.slice none 0 0);refine⟨b7.os,b7.tape,b7.output,by simpa using b7.size,λk hk k7=> ?_⟩;have Hr:k<w1.heap.size:=W1 hk b7.size;rw[g2.block k (by simpa using Hr) k7,g1.block k Hr k7];exact b7.block k hk
 have hrw:((w1.setCell ⟨b,3,none⟩ (repI br)).setCell ⟨b,4,none⟩ (.slice none 0 0)).rowIs br 328 256 (λi=>.int .u8 (swpB i:Int)):=by refine k9.of_block ?_;have g1:=ZR w1 b 3 (repI br);have g2:=ZR (w1.setCell ⟨b,3,none⟩ (repI br)) b 4 (.slice none 0 0);have k7:some br≠some b:=X0;rw[g2.block br (by simpa using k9.lt) k7,g1.block br k9.lt k7]
 have H:=B0 (And.intro h2 (And.intro hg hrw));clear Dt aAa h1 h2 hg hrw k9 b7;unfold repI at H;go_wp2;go_end0;exact⟨rfl,br,Sc,H.out.2.2,H.out.1,H.out.2.1⟩
def Zfx(a:Addr)(x:Value)(u:FrameMode)(w:World)(hc:w.cell? a=some x)(hz:w.frozen? a=false):
 CallsD prog 290 #[.pointer (some a),.bool true] u w λe u' w'=>u'=u/\(e=.returned (.tuple #[])/\w'=w.drew.setCell a (.int .u32 1)):=by
 have Dd:w.drew.cell? a=some x:=by go_simp
 have hz':w.drew.frozen? a=false:=by go_simp
 have p9:=run_call_store (P:=prog) func297 N0 N0 N0 N0 (k:=.u32) (y:=1) Dd hz';go_enter_d func290,ntmps290;go_wp2;go_region_calls;all_goals(go_end0;exact⟨rfl,rfl⟩)
def DK(a:Addr)(x:Int)(hx:x=0\/x=1)(w:World)(hc:w.cell? a=some (.int .u32 x)):
 Calls prog 274 #[.pointer (some a)] w λe w'=>e=.returned (.bool (x !=0))/\w=w':=by
 have hl:=run_call_load (P:=prog) func287 N0 N0 N0 .u32 N0 (w:=w) (a:=a) (x:=x) hc;rcases hx with rfl|rfl
 .go_enter func274,ntmps274;exact Q9
 .go_enter func274,ntmps274;exact Q9
def Zi6(b:Nat)(w:World)(hF:YZ w b 0):
 Calls prog 275 #[.pointer (some ⟨b,0,none⟩),.func (.func 269) #[.pointer (some ⟨b,0,none⟩)] #[]] w λe w'=>e=.returned (.tuple #[])/\∃br,w.heap.size<=br/\w'.rowIs br 328 256 (λi=>.int .u8 (swpB i:Int))/\E8 w' b 1 0 (repI br) (.slice none 0 0)/\w.grownBy w' (some b):=by
 obtain⟨v,Dt,j8,k7⟩:=hF;have hlt:b<w.heap.size:=(V3.1 Dt).1;have c1:=Zv Dt (i:=1) rfl;have f1:=ZX Dt (i:=1);have h1:=Zt (i:=1) (u:=.int .i32 1) Dt;have g1:=ZR w b 1 (.int .i32 1);have hF1:YZ (w.setCell ⟨b,1,none⟩ (.int .i32 1)) b 1:=by refine⟨v,h1,?_,k7⟩;exact(N5.grow (v:=.slice (some ⟨b,0,none⟩) 1 1) (v':=.slice (some ⟨b,0,none⟩) 1 1) (by simpa[Value.ownBlock]using g1) w.heap.size (J0 _) (.inl rfl) 0 v _ j8 (.inr (by simp[Value.ownBlock];exactλe=>k7 e.symm))).1
 have HB:=B0 (ZfK b _ 1 hF1);have HL:=B0 (DK ⟨b,0,none⟩ 0 (.inl rfl) _ (Zv h1 (i:=0) rfl));have aEB:∀(x:Bool)(w:World),(Op.unary .not (.bool x)).run prog w=.ok (.bool (!x)) w:=λ_ _=>rfl
 go_enter_defers func275,ntmps275;go_wp2_with (go_at_call 288;refine(lock_free gK ⟨b,1,none⟩ _ c1 f1).mono ?_;rintro e w' ⟨rfl,rfl⟩);refine HL.out.mono ?_;rintro e w1 ⟨rfl,rfl⟩;go_wp2_with fail;refine HB.out.mono ?_;rintro e w2 ⟨rfl,br,Sc,k9,Fh,hg⟩;have q0:=Zv Fh (i:=0) rfl;have q1:=Zv Fh (i:=1) rfl;have z0:=ZX Fh (i:=0);have z1:=ZX Fh (i:=1);have aBL:=Zt (i:=0) (u:=.int .u32 1) (show w2.drew.heap[b]? =_ from Fh);have q1':=Zv aBL (i:=1) rfl;have z1':=ZX aBL (i:=1);have aG8:=Zt (i:=1) (u:=.int .i32 0) aBL;have o4:(w.setCell ⟨b,1,none⟩ (.int .i32 1)).heap.size=w.heap.size:=by simp
 rw[o4]at Sc;have g2:=ZR w2.drew b 0 (.int .u32 1);have g3:=ZR (w2.drew.setCell ⟨b,0,none⟩ (.int .u32 1)) b 1 (.int .i32 0);have hrw:((w2.drew.setCell ⟨b,0,none⟩ (.int .u32 1)).setCell ⟨b,1,none⟩ (.int .i32 0)).rowIs br 328 256 (λi=>.int .u8 (swpB i:Int)):=by refine k9.of_block ?_;have k7:some br≠some b:=X0;rw[g3.block br (by simpa using k9.lt) k7,g2.block br k9.lt k7];rfl
 have hgg:w.grownBy ((w2.drew.setCell ⟨b,0,none⟩ (.int .u32 1)).setCell ⟨b,1,none⟩ (.int .i32 0)) (some b):=by have Yv:w.heap.size<=w2.heap.size:=(by have:=hg.size;rw[o4]at this;exact L3);refine⟨hg.os.trans g1.os,hg.tape.trans g1.tape,hg.output.trans g1.output,by simpa using Yv,λk hk k7=> ?_⟩;have Dy:k<w2.heap.size:=W1 hk Yv;rw[g3.block k (by simpa using Dy) k7,g2.block k Dy k7];exact(hg.block k (by rw[o4];exact hk) k7).trans (g1.block k hk k7)
 have H:=B0 (And.intro aG8 (And.intro hgg hrw));go_wp2;refine leaves_cons (f:=290) (args:= #[.pointer (some ⟨b,0,none⟩),.bool true]) L0 (by simp[go_sem]) ?_;refine(Zfx ⟨b,0,none⟩ (.int .u32 0) .returning _ q0 z0).mono ?_;rintro e u' y8 ⟨rfl,rfl,rfl⟩;refine leaves_cons (f:=289) (args:= #[.pointer (some ⟨b,1,none⟩)]) (by simp[settle]) (by simp[go_sem]) ?_;refine(unlock_deferred gK ⟨b,1,none⟩ _ _ q1' z1').mono ?_;rintro e u' y8 ⟨rfl,rfl,rfl⟩;exact⟨_,MD rfl _ _ _,rfl,br,Sc,H.out.2.2,H.out.1,H.out.2.1⟩
def Zlh(b:Nat)(w:World)(hF:YZ w b 0):
 Calls prog 268 #[.pointer (some ⟨b,0,none⟩),.func (.func 269) #[.pointer (some ⟨b,0,none⟩)] #[]] w λe w'=>e=.returned (.tuple #[])/\∃br,w.heap.size<=br/\w'.rowIs br 328 256 (λi=>.int .u8 (swpB i:Int))/\E8 w' b 1 0 (repI br) (.slice none 0 0)/\w.grownBy w' (some b):=by
 have HS:=B0 (Zi6 b w hF);obtain⟨v,Dt,_,_⟩:=hF;have HL:=B0 (DK ⟨b,0,none⟩ 0 (.inl rfl) w (Zv Dt (i:=0) rfl));clear Dt;go_enter func268,ntmps268;go_wp2_with fail;refine HL.out.mono ?_;rintro e w1 ⟨rfl,rfl⟩;go_wp2_with fail;refine HS.out.mono ?_;rintro e w2 ⟨rfl,hh⟩;go_wp2;go_end0;exact⟨rfl,hh⟩
def Zlg(b br:Nat)(f:Value)(w:World)(hR:E8 w b 1 0 (repI br) (.slice none 0 0)):
 Calls prog 268 #[.pointer (some ⟨b,0,none⟩),f] w λe w'=>e=.returned (.tuple #[])/\w=w':=by
 have HL:=B0 (DK ⟨b,0,none⟩ 1 (.inr rfl) w (Zv hR (i:=0) rfl));clear hR;go_enter func268,ntmps268;go_wp2_with fail;refine HL.out.mono ?_;rintro e w1 ⟨rfl,rfl⟩;go_wp2;go_end0;exact⟨rfl,rfl⟩
def gP(v:Value)(w:World):(method 505 329 v "Replace").run prog w=.ok (383,v) w:=D1
def Zga(b:Nat)(s:ByteArray)(w:World)(hF:YZ w b 0)(hs:∀c∈s.data.toList,c=65\/c=66)(h0:0<s.size)(hn:s.size<=1000):
 Calls prog 242 #[.pointer (some ⟨b,0,none⟩),.string s] w λe w'=>e=.returned (.string ⟨(s.data.toList.map swpU).toArray⟩)/\∃br,w.heap.size<=br/\w'.rowIs br 328 256 (λi=>.int .u8 (swpB i:Int))/\E8 w' b 1 0 (repI br) (.slice none 0 0)/\w.grownBy w' (some b):=by
 have HD:=B0 (Zlh b w hF);have HB:=B0 (λbr w' k9=>gL br s w' k9 hs h0 hn);clear hs hF;go_enter func242,ntmps242;go_wp2_with fail;refine HD.out.mono ?_;rintro e w1 ⟨rfl,br,Sc,k9,Fh,hg⟩;have c3:=Zv Fh (i:=3) rfl;unfold repI at c3;have hm:=gP;go_wp2_with fail;refine(HB.out br w1 k9).mono ?_;rintro e w2 ⟨rfl,j0⟩;have Kn:=Ext.aA0 k9 j0;have aBL:E8 w2 b 1 0 (repI br) (.slice none 0 0):=(j0.block b (V3.1 Fh).1).trans Fh;have Cw:w.grownBy w2 (some b):=⟨j0.os.trans hg.os,j0.tape.trans hg.tape,j0.output.trans hg.output,F3 hg.size j0.size,λk hk k7=>(j0.block k (W1 hk hg.size)).trans (hg.block k hk k7)⟩;clear k9 Fh hg;go_wp2;go_ret;exact⟨rfl,br,Sc,Kn,aBL,Cw⟩
def ZfY(b br:Nat)(s:ByteArray)(w:World)(k9:w.rowIs br 328 256 (λi=>.int .u8 (swpB i:Int)))(Fh:E8 w b 1 0 (repI br) (.slice none 0 0))(hs:∀c∈s.data.toList,c=65\/c=66)(h0:0<s.size)(hn:s.size<=1000):
 Calls prog 242 #[.pointer (some ⟨b,0,none⟩),.string s] w λe w'=>e=.returned (.string ⟨(s.data.toList.map swpU).toArray⟩)/\Ext w w':=by
 have HD:=B0 (λf=>Zlg b br f w Fh);have HB:=B0 (gL br s w k9 hs h0 hn);have c3:=Zv Fh (i:=3) rfl;unfold repI at c3;have hm:=gP;clear hs k9 Fh;go_enter func242,ntmps242;go_wp2_with fail;refine(HD.out _).mono ?_;rintro e w1 ⟨rfl,rfl⟩;go_wp2_with fail;refine HB.out.mono ?_;rintro e w2 ⟨rfl,j0⟩;go_wp2;go_ret;exact⟨rfl,j0⟩
end
section
open Go.RowKit
section
variable {α:Type} {enc:α->List Value} {k:Nat} {T:TypeId}
def Zjz{w:World}{ops:Array Oper}{rest:List Oper}{o:Oper}{a:Act}{Q:Exit->Act->World->Prop}(IG:o.guard=none)(s x:Operand)(ST T:TypeId)(z:Value)(bytes:Nat)
 (ho:o.op=.call {callee:=.builtin .append,args:= #[s,x],argTypes:= #[ST,ST]})
 (hT:prog.underlying ST=some (.slice T))(hi:(prog.info? T).map (λi=>(i.zero,i.size,i.bytes))=some (some z,k,bytes))(hz:z.cells.size=k)(Ew:0<k)(Iz:bytes<=1000)
 (hk:∀x,(enc x).length=k)(h1:∀x,∀u∈enc x,u.oneCell'=true)
 (B:Nat)(v:Value)(xs:List α)(hs:a.eval s=v)(b8:KOwn T k enc w B v xs)(b n:Nat)(ys:List α)(hx:a.eval x=.slice (some ⟨b,0,none⟩) n n)(hn:ys.length=n)
 {cs:Array Value}{ty:TypeId}(hb:w.heap[b]? =some (.cells cs ty (0,0)))(Ar:cs.toList=ZB enc ys)(hl:xs.length+n<=1000000000)(hB:B<=w.heap.size)
 (h:∀v' w',KOwn T k enc w' B v' (xs++ys)->w.grownBy w' v.ownBlock->wpList prog ops Q rest (a.put o.dst v') w'):wpList prog ops Q (o::rest) a w:=by
 obtain⟨i0,hi,An,p8,x9⟩:=C5 hi;refine RD _ IG s x ST ho B T i0 z k bytes hT hi An p8 x9 hz Ew v xs.length (ZB enc xs) hs b8 ⟨b,0,none⟩ n n (ZB enc ys) hx (by rw[wE hk,hn]) ?_ (wH h1 ys) ?_ ?_ hB ?_
 .intro j r hj;rw[UD];refine Zv hb ?_;rw[<-Ar]at hj;simpa using hj
 .exact B8
 .exact F3 (O9 hl Iz) I0
 .intro v' w' h1 h2 _;refine h v' w' ?_ h2;unfold KOwn;rw[S0,wF,hn];exact h1
end
def mvC(m:Cs.Mv):List Value:=[.int .i64 m.1,.int .i64 (m.2.1:Int),.int .i64 (m.2.2:Int)]
def RX(m:Cs.Mv):(mvC m).length=3:=rfl
def Znl:∀(m:Cs.Mv),∀u∈mvC m,u.oneCell'=true:=by intro m u hu;simp only[mvC,E2,J4,F4]at hu;rcases hu with rfl|rfl|rfl<;>rfl
abbrev MOwn:=KOwn (α:=Cs.Mv) 220 3 mvC
def WY{w:World}{ops:Array Oper}{rest:List Oper}{o:Oper}{a:Act}{Q:Exit->Act->World->Prop}(IG:o.guard=none)(s x:Operand)
 (ho:o.op=.call {callee:=.builtin .append,args:= #[s,x],argTypes:= #[221,221]})
 (B:Nat)(v:Value)(xs:List Cs.Mv)(hs:a.eval s=v)(b8:MOwn w B v xs)(b n:Nat)(ys:List Cs.Mv)(hx:a.eval x=.slice (some ⟨b,0,none⟩) n n)(hn:ys.length=n)
 {cs:Array Value}{ty:TypeId}(hb:w.heap[b]? =some (.cells cs ty (0,0)))(Ar:cs.toList=ZB mvC ys)(hl:xs.length+n<=1000000000)(hB:B<=w.heap.size)
 (h:∀v' w',MOwn w' B v' (xs++ys)->w.grownBy w' v.ownBlock->wpList prog ops Q rest (a.put o.dst v') w'):wpList prog ops Q (o::rest) a w:=
 Zjz IG s x 221 220 (.agg #[.int .i64 0,.int .i64 0,.int .i64 0]) 24 ho underlying221 N0 rfl I0 I0 RX Znl B v xs hs b8 b n ys hx hn hb Ar hl hB h
def MvE(l:List Cs.Mv)(w:World)(e:Ending)(w':World):Prop:=∃v,e=.returned v/\MOwn w' w.heap.size v l/\Ext w w'
def Cs.pre(cs:List Int)(i st:Nat):List Cs.Mv:=if st=2 then [(98,i,1),(99,i,4),(100,i,3)]else if st=3 then [(98,i,0),(99,i,4),(101,i,2)]else [(100,i,3),(101,i,2)]++Cs.one (Cs.IM cs i) (i+2,4)
def Cs.moves_big(cs:List Int)(i st:Nat)(h:2<=st):Cs.Au cs i st=Cs.pre cs i st++Cs.one (Cs.own (cs.getD i 0) st) (i+1,st):=by unfold Cs.Au Cs.pre;exact FF
def Ext.Rm{w w':World}{b:Nat}{o:Obj}(h:w.heap[b]? =some o)(hx:Ext w w'):w'.heap[b]? =some o:=gQ
def TD(w:World)(A B:Obj):((w.alloc A).alloc B).heap[w.heap.size+1]? =some B:=by have:=X2 (w.alloc A) B;exact I6
def MvM(w:World)(i p:Int)(l:List Cs.Mv)(v:Value)(wx:World):Prop:=MOwn wx (w.heap.size+1) v l/\Ext (w.alloc (.cells #[.int .i64 i,.int .i64 p] 218)) wx
def ME{w:World}{b:Nat}{x y:Value}{t:TypeId}(h:w.heap[b]? =some (.cells #[x,y] t (0,0))):
 b<w.heap.size/\w.cell? ⟨b,0,none⟩=some x/\w.cell? ⟨b,1,none⟩=some y:=⟨(V3.1 h).1,Zv h rfl,Zv h rfl⟩
def MvM.of{w w5:World}{i p:Int}{o:Obj}{l:List Cs.Mv}{v:Value}(h:MOwn w5 (w.heap.size+1) v l)(hg:((w.alloc (.cells #[.int .i64 i,.int .i64 p] 218)).alloc o).grownBy w5 none):MvM w i p l v w5:=
 ⟨h,((Ext.refl _).alloc o).l8 hg (λq hq=>by cases hq)⟩
def MvM.more{w w1 w5:World}{i p:Int}{o:Obj}{l l':List Cs.Mv}{v v':Value}(h:MvM w i p l v w1)(h':MOwn w5 (w.heap.size+1) v' l')(hg:(w1.alloc o).grownBy w5 v.ownBlock):MvM w i p l' v' w5:=
 ⟨h',(h.2.alloc o).l8 hg (λq hq=>by have:=h.1.low q hq;simp;omega)⟩
def gR(v:Value)(cs:List Int)(i s:Nat)(w:World)(hv:Sl w v (cs.map encI))(hl:cs.length<=4096)(x7:∀c∈cs,Cs.Ab c)(hi:i<cs.length)(hs:s<=4):
 Calls prog 186 #[v,.agg #[.int .i64 (i:Int),.int .i64 (s:Int)]] w (MvE (Cs.Au cs i s) w):=by
 obtain⟨a,c,rfl⟩:=hv.form;rw[M0]at hv⊢;obtain⟨n,hn⟩:∃n,n=cs.length:=⟨_,rfl⟩;rw[<-hn]at hv hl hi⊢;have HN:=B0 hn;obtain⟨x,IY⟩:∃x,cs[i]? =some x:=⟨_,P0 (by rw[<-hn];exact hi)⟩;have IG:cs.getD i 0=x:=TE;have hx:=x7 x (L1 IY);obtain⟨b,o,ha,hb,hc⟩:=hv.Af (Ext.refl w) IY;subst ha;have n9:0<=x:=U5;have b7:x<=259:=U5;have Kl:(i:Int)<(n:Int):=by omega
 have HV:=B0 hv;have Ag:=B0 x7;have Iq:=B0 IG;have Ix:=B0 IY;clear hv x7 IG IY hn hx;obtain⟨p,hp⟩:∃p:Int,p=(s:Int):=⟨_,rfl⟩;rw[<-hp];have h5:s=0\/s=1\/(s=2\/s=3\/s=4):=by omega
 rcases h5 with rfl|rfl|Pr
 .obtain rfl:p=0:=hp
  have HM:Hid (Cs.Au cs i 0=Cs.one (Cs.valOf x 2) (i+1,3)):=B0 (by rw[<-Iq.out];rfl)
  have HC:=B0 (λw=>FK x 2 2 w rfl (.inl rfl) n9 b7)
  generalize Cs.valOf x 2=ov at*
  generalize Cs.Au cs i 0=res at*
  cases ov with
  |none=>exact gS
  |some y=>unfold optV at HC;dsimp only[Option.getD_some,Option.isSome_some]at HC;go_enter func186,ntmps186;go_wp2_with fail;refine(HC.out _).mono ?_;rintro e w1 ⟨rfl,rfl⟩;go_wp2_with (at_builtin;refine WY rfl _ _ rfl w.heap.size _ [] rfl (KOwn.nil _ _ _ _ _) _ 1 [(y,i+1,3)] rfl rfl (TD _ _ _) rfl L0 J3 ?_);intro v' w5 l6 j6;have p7:=B0 ((((Ext.refl w).alloc (.cells #[.int .i64 (i:Int),.int .i64 0] 218)).alloc (.cells #[.int .i64 y,.int .i64 ((i:Int)+1),.int .i64 3] 220)).l8 j6 (λq hq=>by cases hq));exact gT
 .obtain rfl:p=1:=hp
  have HM:Hid (Cs.Au cs i 1=Cs.one (Cs.valOf x 3) (i+1,2)):=B0 (by rw[<-Iq.out];rfl)
  have HC:=B0 (λw=>FK x 3 3 w rfl (.inr (.inl rfl)) n9 b7)
  generalize Cs.valOf x 3=ov at*
  generalize Cs.Au cs i 1=res at*
  cases ov with
  |none=>exact gS
  |some y=>unfold optV at HC;dsimp only[Option.getD_some,Option.isSome_some]at HC;go_enter func186,ntmps186;go_wp2_with fail;refine(HC.out _).mono ?_;rintro e w1 ⟨rfl,rfl⟩;go_wp2_with (at_builtin;refine WY rfl _ _ rfl w.heap.size _ [] rfl (KOwn.nil _ _ _ _ _) _ 1 [(y,i+1,2)] rfl rfl (TD _ _ _) rfl L0 J3 ?_);intro v' w5 l6 j6;have p7:=B0 ((((Ext.refl w).alloc (.cells #[.int .i64 (i:Int),.int .i64 1] 218)).alloc (.cells #[.int .i64 y,.int .i64 ((i:Int)+1),.int .i64 2] 220)).l8 j6 (λq hq=>by cases hq));exact gT
 .have Uw:Hid (Cs.Au cs i s=Cs.pre cs i s++Cs.one (Cs.own x s) (i+1,s)):=B0 (by rw[Cs.moves_big cs i s C0,Iq.out]);have Oh:2<=p:=C0;have St:p<=4:=C0;obtain⟨P,hP⟩:∃P,P=Cs.pre cs i s:=⟨_,rfl⟩;rw[<-hP]at Uw;have HP:=B0 hP;clear hP;generalize Cs.Au cs i s=res at*;go_enter func186,ntmps186;go_upto_block 0 with fail;go_cut [7]from 14 (λs7 wx=>Hid (MvM w (i:Int) p P s7 wx));case first=>
   rcases Pr with rfl|rfl|rfl;(·obtain rfl:p=2:=hp;obtain rfl:P=[(98,i,1),(99,i,4),(100,i,3)]:=HP.out;go_wp2_with (at_builtin;refine WY rfl _ _ rfl (w.heap.size+1) _ [] rfl (KOwn.nil _ _ _ _ _) _ 3 [(98,i,1),(99,i,4),(100,i,3)] rfl rfl (TD _ _ _) rfl L0 L0 ?_);intro v' w5 l6 j6;have Kc:Hid (MvM w (i:Int) 2 [(98,i,1),(99,i,4),(100,i,3)] v' w5):=B0 (MvM.of l6 j6);clear l6 j6;exact DL);(·obtain rfl:p=3:=hp;obtain rfl:P=[(98,i,0),(99,i,4),(101,i,2)]:=HP.out;go_wp2_with (at_builtin;refine WY rfl _ _ rfl (w.heap.size+1) _ [] rfl (KOwn.nil _ _ _ _ _) _ 3 [(98,i,0),(99,i,4),(101,i,2)] rfl rfl (TD _ _ _) rfl L0 L0 ?_);intro v' w5 l6 j6;have Kc:Hid (MvM w (i:Int) 3 [(98,i,0),(99,i,4),(101,i,2)] v' w5):=B0 (MvM.of l6 j6);clear l6 j6;exact DL)
   .obtain rfl:p=4:=hp
    have HP4:Hid (P=[(100,i,3),(101,i,2)]++Cs.one (Cs.IM cs i) (i+2,4)):=B0 HP.out
    obtain⟨B,hB⟩:∃B:Bool,B=(Cs.IM cs i).isSome:=⟨_,rfl⟩
    have HB:=B0 hB
    clear hB
    go_wp2_with (at_builtin;refine WY rfl _ _ rfl (w.heap.size+1) _ [] rfl (KOwn.nil _ _ _ _ _) _ 2 [(100,i,3),(101,i,2)] rfl rfl (TD _ _ _) rfl L0 L0 ?_)
    intro v' w5 l6 j6
    have Kc:Hid (MvM w (i:Int) 4 [(100,i,3),(101,i,2)] v' w5):=B0 (MvM.of l6 j6)
    have hc5:=(Kc.out.2.cell (p:=⟨b,o+i,none⟩) J3).trans ((((Ext.refl w).alloc (.cells #[.int .i64 (i:Int),.int .i64 4] 218)).cell (p:=⟨b,o+i,none⟩) hb).trans hc)
    have Yf:Ext w w5:=((Ext.refl w).alloc _).trans Kc.out.2
    clear l6 j6
    go_upto_region 20 with fail
    go_cut [100]from 14 (λaH6 wx=>aH6=.bool B/\wx=w5)
    case first=>
     by_cases Gh:i+1<n
     .have aAT:(i:Int)+1<(n:Int):=by omega
      obtain⟨y,Lj⟩:∃y,cs[i+1]? =some y:=⟨_,P0 RY⟩
      obtain⟨b2,o2,IB,n7,IS⟩:=HV.out.Af Yf Lj
      injection IB with IB
      injection IB with IB ha3
      subst IB ha3
      have Ts:Hid (Cs.IM cs i=Cs.No x y):=B0 gU
      have We:((i+1:Nat):Int)=(i:Int)+1:=rfl
      clear Lj
      cases hdx:Cs.dig x with
      |false=>have HC:=B0 (λw=>FL x w);exact gV
      |true=>have HC:=B0 (λw=>FL x w);have IE:=B0 (λw=>FL y w);exact gW
     .exact gY
    case rest=>
    obtain⟨rfl,rfl⟩:=hcut
    cases B with
    |false=>
     obtain rfl:P=[(100,i,3),(101,i,2)]:=by
      rw[HP4.out]
      cases Oi:Cs.IM cs i with
      |none=>rfl
      |some z=>have:=HB.out;rw[Oi]at this;cases this
     exact DL
    |true=>obtain⟨z,hz⟩:∃z,Cs.IM cs i=some z:=Option.isSome_iff_exists.1 HB.out.symm;have x9:=hz;unfold Cs.IM at x9;split at x9;(·rename_i Gh;rw[<-HN.out]at Gh;have aAT:(i:Int)+1<(n:Int):=C0;obtain⟨y,Lj⟩:∃y,cs[i+1]? =some y:=⟨_,P0 RY⟩;obtain⟨b2,o2,IB,n7,IS⟩:=HV.out.Af Yf Lj;injection IB with IB;injection IB with IB ha3;subst IB ha3;have hy:=Ag.out y (L1 Lj);have hy0:0<=y:=MF;have Yy:y<=259:=MF;have We:((i+1:Nat):Int)=(i:Int)+1:=rfl;rw[Iq.out,F1,Lj]at x9;obtain rfl:z=10*(x-48)+y-48:=(by unfold Cs.No at x9;split at x9;(·injection x9 with x9;exact x9.symm);·cases x9);obtain rfl:P=[(100,i,3),(101,i,2)]++[(10*(x-48)+y-48,i+2,4)]:=(by rw[HP4.out,hz];rfl);clear Lj hz x9 hy Gh;go_wp2_with (at_builtin;refine WY rfl _ _ rfl (w.heap.size+1) _ _ rfl (Kc.out.1.ext ((Ext.refl _).alloc _)) _ 1 [(10*(x-48)+y-48,i+2,4)] rfl rfl (X2 _ _) rfl L0 (by have:=Kc.out.2.size;simp at this⊢;omega) ?_);intro v6 w6 Dg Pk;have HM6:Hid (MvM w (i:Int) 4 ([(100,i,3),(101,i,2)]++[(10*(x-48)+y-48,i+2,4)]) v6 w6):=B0 (MvM.more Kc.out Dg Pk);clear Dg Pk;go_wp2_with fail;go_meet;case rel=>exact HM6);·cases x9
  case rest=>
  have Kc:=hcut;have hPl:P.length<=4:=(by rw[HP.out];unfold Cs.pre Cs.one;(repeat' split)<;>simp);clear hcut HP;subst hp;obtain⟨n0,n1,n2⟩:=ME (Ext.Rm (X2 w _) Kc.out.2);have HEX:Hid (Ext w wc):=B0 (((Ext.refl w).alloc _).trans Kc.out.2);have aJI:w.heap.size+1<=wc.heap.size:=(by have:=Kc.out.2.size;exact I6);have Lp:=B0 (λw=>FK x s s w rfl Pr n9 b7);by_cases o9:256<=x
  .have HO:Cs.own x s=Cs.fnOf x s:=by unfold Cs.own;rw[G0 o9]
   have IE:=B0 (λw=>wA x s s w rfl Pr)
   rw[HO]at Uw
   clear HO
   unfold optV at Lp IE
   generalize(Cs.valOf x s).getD 0=y1 at*
   generalize(Cs.valOf x s).isSome=b1 at*
   generalize Cs.fnOf x s=ov at*
   cases ov with
   |none=>dsimp only[Option.getD_none,Option.isSome_none]at IE;go_wp2_with fail;refine(Lp.out _).mono ?_;rintro e w1 ⟨rfl,rfl⟩;go_wp2_with fail;refine(IE.out _).mono ?_;exact gZ
   |some y=>dsimp only[Option.getD_some,Option.isSome_some]at IE;go_wp2_with fail;refine(Lp.out _).mono ?_;rintro e w1 ⟨rfl,rfl⟩;go_wp2_with fail;refine(IE.out _).mono ?_;exact rA
  .have HO:Cs.own x s=Cs.valOf x s:=by unfold Cs.own;rw[D0 o9]
   rw[HO]at Uw
   clear HO
   unfold optV at Lp
   generalize Cs.valOf x s=ov at*
   cases ov with
   |none=>dsimp only[Option.getD_none,Option.isSome_none]at Lp;go_wp2_with fail;refine(Lp.out _).mono ?_;exact gZ
   |some y=>dsimp only[Option.getD_some,Option.isSome_some]at Lp;go_wp2_with fail;refine(Lp.out _).mono ?_;exact rA
end
section
open Go.RowKit Go.Maps Go Go.WideMaps Go.ChangeMaps
def ndV(x:Cs.Nd):Value:=.agg #[.int .i64 (x.1:Int),.int .i64 (x.2:Int)]
def Znm:∀a b:Cs.Nd,ndV a=ndV b->a=b:=by rintro⟨k,s⟩ ⟨j,t⟩ h;unfold ndV at h;simp only[Value.agg.injEq,Array.mk.injEq,RZ,Value.int.injEq,true_and,W5]at h;have h1:=h.1;have h2:=h.2;rw[Int.ofNat.inj h1,Int.ofNat.inj h2]
def Znn:laidOutB prog=true:=D1
def Zob:KeyLaw prog 218:=deep_law_laid Znn (m:=3) C0 (D4 N0) N0 (by rw[underlying218])
def DN:Keyed prog 218:=Keyed.of_law Zob
def DO{x:Cs.Nd}(h1:x.1<=1000000)(h2:x.2<=1000000):∃l,keyOf prog 218 (ndV x)=some l:=by
 unfold ndV keyOf;simp only[underlying218];have k1:prog.keyType 218=true:=D1;have k2:(Value.agg #[.int .i64 (x.1:Int),.int .i64 (x.2:Int)]).formed prog 218=true:=D1;obtain⟨d,hd⟩:∃d,prog.types.size+1=d+1+1:=⟨prog.types.size-1,by kernel_rfl⟩;rw[k1,k2,hd];simp only[Bool.and_self,M3];have hc:prog.cellsOf 218=2:=D1;have hi:prog.cellsOf 3=1:=D1;have u1:prog.underlying 3=some (.int .i64):=D1;have k4:∀y:Nat,y<=1000000->prog.keyLits (d+1) 3 [.int .i64 (y:Int)]=some [.int .i64 (y:Int)]:=λy hy=>by have hk:(Lit.int .i64 (y:Int)).wf=true:=rC;unfold Program.keyLits;rw[u1];simp[hk]
 have k5:=k4 x.1 h1;have k6:=k4 x.2 h2;have key:∃ls,prog.keyLits (d+1+1) 218 (Value.agg #[.int .i64 (x.1:Int),.int .i64 (x.2:Int)]).cells.toList=some ls:=by generalize Mg:d+1=d2 at*;unfold Program.keyLits;simp only[underlying218,Value.cells];rw[G0 ⟨by rw[hc];rfl,by decide+kernel⟩];simp only[XC,List.mapM_nil];simp[hi,k5,k6]
 obtain⟨ls,hls⟩:=key;rw[hls];exact⟨_,rfl⟩
def rD(w:World):(zeroValue 3).run prog w=.ok (.int .i64 0) w:=D1
def cst(T:Cs.Tab)(x:Cs.Nd):Option Int:=(T x).map λ(r:Nat)=>(r:Int)
def TabM(w0 w:World)(mb:Nat)(T:Cs.Tab)(K:Nat):Prop:=
 (∃c,c<=K/\MapV prog 218 ndV w mb c (cst T))/\(∀x r,T x=some r->r<=K)/\GB (some mb) w0 w
section
variable {w0 w w':World} {mb K:Nat} {T:Cs.Tab}
def TabM.made(w:World):TabM w (w.alloc (.map #[] 0)) w.heap.size (λ_=>none) 0:=
 ⟨⟨0,J0 _,MapV.made w⟩,(λx r h=>by cases h),GB.ext ((Ext.refl w).alloc _)⟩
def TabM.ext(h:TabM w0 w mb T K)(hx:Ext w w'):TabM w0 w' mb T K:=by obtain⟨⟨c,hc,hm⟩,hb,hg⟩:=h;exact⟨⟨c,hc,hm.kept hx.Hl L0⟩,hb,hg.trans (GB.ext hx)⟩
def TabM.up{K':Nat}(h:TabM w0 w mb T K)(hk:K<=K'):TabM w0 w mb T K':=by obtain⟨⟨c,hc,hm⟩,hb,hg⟩:=h;exact⟨⟨c,by omega,hm⟩,λx r hr=>by have:=hb x r hr;omega,hg⟩
def TabM.look(h:TabM w0 w mb T K)(x:Cs.Nd)(h1:x.1<=1000000)(h2:x.2<=1000000):
 (Instr.lookup 215 (.map (some mb)) (.agg #[.int .i64 (x.1:Int),.int .i64 (x.2:Int)]) true).run prog w=.ok (.tuple #[.int .i64 (((T x).getD 0:Nat):Int),.bool (T x).isSome]) w:=by
 obtain⟨⟨c,hc,hm⟩,hb,hg⟩:=h;obtain⟨l,hl⟩:=DO h1 h2;have:=hm.get (T:=215) DN underlying215 (rD w) hl;have e1:(cst T x).getD 0=(((T x).getD 0:Nat):Int):=by unfold cst;cases T x<;>rfl
 have e2:(cst T x).isSome=(T x).isSome:=by unfold cst;cases T x<;>rfl
 rw[e1,e2]at this;exact this
def TabM.aAi(h:TabM w0 w mb T K)(x:Cs.Nd)(h1:x.1<=1000000)(h2:x.2<=1000000):
 (Instr.lookup 215 (.map (some mb)) (.agg #[.int .i64 (x.1:Int),.int .i64 (x.2:Int)]) false).run prog w=.ok (.int .i64 (((T x).getD 0:Nat):Int)) w:=by
 obtain⟨⟨c,hc,hm⟩,hb,hg⟩:=h;obtain⟨l,hl⟩:=DO h1 h2;have:=hm.Xr (T:=215) DN underlying215 (rD w) hl;have e1:(cst T x).getD 0=(((T x).getD 0:Nat):Int):=by unfold cst;cases T x<;>rfl
 rw[e1]at this;exact this
def TabM.put(h:TabM w0 w mb T K)(x:Cs.Nd)(h1:x.1<=1000000)(h2:x.2<=1000000)(r:Nat)(hr:r<=K+1)(hK:K<=1000000):
 ∃w',(Instr.mapUpdate 215 (.map (some mb)) (.agg #[.int .i64 (x.1:Int),.int .i64 (x.2:Int)]) (.int .i64 (r:Int))).run prog w=.ok () w'/\TabM w0 w' mb (λy=>if y=x then some r else T y) (K+1)/\w.grownBy w' (some mb):=by
 obtain⟨⟨c,hc,hm⟩,hb,hg⟩:=h;obtain⟨l,hl⟩:=DO h1 h2;obtain⟨w',Cm,Yo,Yl⟩:=hm.put (T:=215) DN underlying215 hl (r:Int) O3 Znm;refine⟨w',Cm,⟨⟨c+1,by omega,?_⟩,λy z hy=> ?_,hg.trans Yl⟩,Yl⟩
 .have e:(λy=>if y=x then some (r:Int)else cst T y)=cst (λy=>if y=x then some r else T y):=(by funext y;unfold cst;by_cases hy:y=x;(·simp only[G0 hy];rfl);·simp only[D0 hy]);rw[<-e];exact Yo
 .dsimp only at hy;split at hy;(·injection hy with hy;omega);·have:=hb y z hy;omega
end
end
end Go.Proofs.Enc
