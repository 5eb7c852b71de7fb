/-
  Laid.
-/
import Derived.Test.YtbngggoccndefaaGreatDoorUn21
set_option maxHeartbeats 16000000
set_option maxRecDepth 100000
set_option linter.all false
namespace Go.Proofs.YtbngggoccndefaaGreatDoor
open Go.Proofs.Tryz
section
open Go.RowKit
theorem DW {fn:Func} {p u:Tmp} (h:fn.results= #[.cell p 278,.tmp u]) {tmps:Array Value} {w:World} {g:Nat} {t:TypeId} {x y z e:Value}
 (hp:tmps.getD p undef=.pointer (some ⟨g,0,none⟩)) (hg:w.heap[g]? =some (.cells #[x,y,z] t (0,0))) (he:tmps.getD u undef=e):
 (results fn tmps).run prog w=.ok (.tuple #[.agg #[x,y,z],e]) w:=by
 rw[results_cell_tmp h,hp,he]
 simp only[asAddr,SE,SF]
 rw[LG w g t _ #[x,y,z] (0,0) _ hg underlying278 rfl G0]
 rfl
theorem Own.off {T T2:TypeId} {w:World} {B g:Nat} {v:Value} {xs:List Value} {cs:Array Value} {fr:Nat×Nat} (h:Own T w B v xs) (hg:w.heap[g]? =some (.cells cs T2 fr)) (hne:T≠T2):v.ownBlock≠some g:=by
 intro e;rcases h.2 with⟨h1,_⟩|⟨k,cap,cur,h1,_,h2,_⟩;·rw[h1]at e;cases e
 ·rw[h1]at e;simp only[Value.ownBlock,I2]at e;subst e;rw[h2]at hg;simp only[I2,Obj.cells.injEq]at hg;exact hne hg.2.1
theorem GB.setNew {row:Option Nat} {a w:World} (h:GB row a w) {b:Nat} (hb:a.heap.size<=b) (i:Nat) (u:Value):GB row a (w.setCell ⟨b,i,none⟩ u):=by
 have h':a.grownBy w row:=h;refine⟨h'.os,h'.tape,h'.output,by simpa[World.setCell]using h'.size,fun k hk hne=> ?_⟩;have:b≠k:=by omega
 simp[World.setCell,VY,this];exact h'.block k hk hne
theorem Own.set {T T2:TypeId} {w:World} {B g:Nat} {v:Value} {xs:List Value} {cs:Array Value} {fr:Nat×Nat} (h:Own T w B v xs) (hg:w.heap[g]? =some (.cells cs T2 fr)) (hne:T≠T2) (i:Nat) (u:Value):Own T (w.setCell ⟨g,i,none⟩ u) B v xs:=
 h.kept (ZI w g i u) (.inr (h.off hg hne))
def RdC (B:Nat) (row:Option Nat) (out:List Int) (st:Option (Nat×Bool×List Int)) (w:World) (e:Ending) (w':World):Prop:=
 GB row w w'∧match st with
 |none=>∃(p:Int) (q:Bool) (a':Option Addr) (n' c':Nat),e=.returned (.tuple #[.agg #[.int .i64 p,.bool q,.slice a' n' c'],.bool false])
 |some (s',h',o)=>∃a' c',e=.returned (.tuple #[.agg #[.int .i64 (s':Int),.bool h',.slice a' (out.length+o.length) c'],.bool true])∧Own 3 w' B (.slice a' (out.length+o.length) c') ((out++o).map encI)
theorem Zod {w w5 w9:World} {B:Nat} {out o:List Int} {s':Nat} {h':Bool} {a5:Option Addr} {n5 c5:Nat} {cs ds:Array Value} {i:Nat} {u:Value} (hn5:n5=out.length+o.length) {row:Option Nat}
 (h9:w9=(((w5.setCell ⟨w.heap.size,i,none⟩ u).setCell ⟨w.heap.size+1,0,none⟩ (.int .i64 (s':Int))).setCell ⟨w.heap.size+1,1,none⟩ (.bool h')).setCell ⟨w.heap.size+1,2,none⟩ (.slice a5 n5 c5))
 (hg:GB row w w5) (hown:Own 3 w5 B (.slice a5 n5 c5) ((out++o).map encI))
 (hb:w5.heap[w.heap.size]? =some (.cells cs 278 (0,0))) (hr:w5.heap[w.heap.size+1]? =some (.cells ds 278 (0,0))):
 RdC B row out (some (s',h',o)) w (.returned (.tuple #[.agg #[.int .i64 (s':Int),.bool h',.slice a5 n5 c5],.bool true])) w9:=by
 subst hn5 h9
 have q0:3≠278:=by decide
 have hr1:=Zs (i:=i) (u:=u) (show w.heap.size≠w.heap.size+1 by omega) hr
 have hr2:=Zp (i:=0) (u:=.int .i64 (s':Int)) hr1
 have hr3:=Zp (i:=1) (u:=.bool h') hr2
 exact⟨(((hg.setNew (K0 _) _ _).setNew (A4 _) _ _).setNew (A4 _) _ _).setNew (A4 _) _ _,a5,c5,rfl,(((hown.set hb q0 _ _).set hr1 q0 _ _).set hr2 q0 _ _).set hr3 q0 _ _⟩
theorem UZ (w:World) (cs ds:Array Value) (t:TypeId):((w.alloc (.cells cs t)).alloc (.cells ds t)).heap[w.heap.size]? =some (.cells cs t (0,0))∧((w.alloc (.cells cs t)).alloc (.cells ds t)).heap[w.heap.size+1]? =some (.cells ds t (0,0)):=
 ⟨Ze (L2 w _) ((Ext.refl _).alloc _),by have:=L2 (w.alloc (.cells cs t)) (.cells ds t);simpa using this⟩
theorem Zly (s:Nat) (sh:Bool) (a:Option Addr) (c n:Nat) (out:List Int) (x:Int) (B:Nat) (w:World) (hn:out.length=n) (hown:Own 3 w B (.slice a n c) (out.map encI)) (hs:s<=2) (hsh:sh=true->s<2) (hx0:0<=x) (hx1:x<=106) (hl:n<=999999980) (hB:B<=w.heap.size):
 Calls prog 261 #[.agg #[.int .i64 (s:Int),.bool sh,.slice a n c],.int .i64 x] w (RdC B (Value.slice a n c).ownBlock out (Cc.stepC s sh x) w):=by
 obtain⟨row,hrow⟩:∃row,row=(Value.slice a n c).ownBlock:=⟨_,rfl⟩
 rw[<-hrow]
 have hlt:∀k,row=some k->k<w.heap.size:=fun k hk=>(U5 hown k (by rw[<-hrow];exact hk)).2
 have HL:=A0 hlt
 have HN:=A0 hn
 have hne:row≠some w.heap.size:=fun e=>by have:=HL.out _ e;omega
 have hne1:row≠some (w.heap.size+1):=fun e=>by have:=HL.out _ e;omega
 have HNE:=A0 hne
 have HNE1:=A0 hne1
 have HRW:=A0 hrow
 have HO:=A0 hown
 clear hlt hn hrow hne hne1 hown
 obtain⟨p,hp⟩:∃p:Int,p=(s:Int):=⟨_,rfl⟩
 rw[<-hp]
 have hp0:0<=p:=by omega
 have hp2:p<=2:=by omega
 have HPS:=A0 hp
 clear hp
 cases sh with
 |true=>have hs2:=hsh rfl;clear hsh;obtain⟨t,ht⟩:∃t,t=1-s:=⟨_,rfl⟩;have htI:1-p=(t:Int):=LN;have HTT:=A0 ht;clear ht;by_cases h95:95<x;(·have HF:Hid (Cc.stepC s true x=none):=A0 (by rw[Cc.stepC,D0 rfl,D0 h95]);exact bH);have hle95:x<=95:=B0;have h102:¬102<x:=B0;have z102:(x==102)=false:=N0.2 B0;have zt:((t:Int)==2)=false:=N0.2 (by have:=HTT.out;omega);have hlt96:x<96:=B0;by_cases h64:x<64;(·have HF:Hid (Cc.stepC s true x=some (s,false,[x+32])):=A0 (by rw[Cc.stepC,D0 rfl,C0 h95,Cc.chOf,<-HTT.out,C0 B0]);clear h95;exact LO);by_cases ht0:t=0;(·have HF:Hid (Cc.stepC s true x=some (s,false,[x-64])):=A0 (by rw[Cc.stepC,D0 rfl,C0 h95,Cc.chOf,<-HTT.out,D0 ⟨ht0,by omega⟩]);have z0:((t:Int)==0)=true:=Y0.2 B0;clear h95 ht0;exact bI);·have HF:Hid (Cc.stepC s true x=some (s,false,[x+32])):=A0 (by rw[Cc.stepC,D0 rfl,C0 h95,Cc.chOf,<-HTT.out,C0 (fun h=>ht0 h.1)]);have z0:((t:Int)==0)=false:=N0.2 B0;clear h95 ht0;exact LO
 |false=>clear hsh;by_cases h102:102<x;(·have HF:Hid (Cc.stepC s false x=none):=A0 (by rw[Cc.stepC,C0 I0,D0 h102]);exact bH);have hle102:x<=102:=B0;by_cases he102:x=102;(·have HF:Hid (Cc.stepC s false x=some (s,false,[256])):=A0 (by subst he102;exact Cc.step_fnc1 s);subst he102;go_enter func261,ntmps261;go_wp2_with (at_builtin;refine Zq rfl _ _ rfl B _ out WJ (((HO.out.alloc _).alloc _).alloc _) _ (256) rfl ?c1 ?c2 ?c3 ?_);(case c1=>exact L3);(case c2=>exact WK);(case c3=>exact Y2);intro v' w5 hown5 hg5;have hown5:Own 3 w5 B v' ((out++[256]).map encI):=L9;have hg5:GB (Value.slice a n c).ownBlock _ w5:=hg5;have hform:=hown5.slk.2;rw[J0,T0,HN.out]at hform;obtain⟨a5,c5,rfl,-⟩:=hform;obtain⟨n5,hn5⟩:∃n5,n5=n+([256]:List Int).length:=⟨_,rfl⟩;exact Qb);have z102:(x==102)=false:=N0.2 he102;by_cases hdg:s=2∧x<=99;(·have HF:Hid (Cc.stepC s false x=some (2,false,[48+x/10,48+x%10])):=A0 (by obtain⟨rfl,h⟩:=hdg;exact Cc.step_dig x h);obtain⟨rfl,h99⟩:=hdg;have hp9:p=2:=HPS.out;subst hp9;go_enter func261,ntmps261;go_wp2_with (at_builtin;refine gB rfl _ _ rfl B _ out WJ (((HO.out.alloc _).alloc _).alloc _) _ (48+x/10) (48+x%10) rfl ?c1 ?c4 ?c2 ?c3 ?_);(case c4=>exact L3);(case c1=>exact L3);(case c2=>exact WK);(case c3=>exact Y2);intro v' w5 hown5 hg5;have hown5:Own 3 w5 B v' ((out++[48+x/10,48+x%10]).map encI):=L9;have hg5:GB (Value.slice a n c).ownBlock _ w5:=hg5;have hform:=hown5.slk.2;rw[J0,T0,HN.out]at hform;obtain⟨a5,c5,rfl,-⟩:=hform;obtain⟨n5,hn5⟩:∃n5,n5=n+([48+x/10,48+x%10]:List Int).length:=⟨_,rfl⟩;exact Qb);by_cases hs2:s=2;(·have hx99:99<x:=B0;subst hs2;rcases(by omega:x=100∨x=101)with rfl|rfl;(·have HF:Hid (Cc.stepC 2 false 100=some (1,false,[])):=A0 E4;have hp9:p=2:=HPS.out;exact QV);·have HF:Hid (Cc.stepC 2 false 101=some (0,false,[])):=A0 E4;have hp9:p=2:=HPS.out;exact QV);have z2:(p==2)=false:=N0.2 LN;clear hdg;by_cases h95:x<=95;(·have hlt96:x<96:=B0;by_cases h64:x<64;(·skip;have HF:Hid (Cc.stepC s false x=some (s,false,[x+32])):=A0 (by rw[Cc.step_ch s hs2 x h95,Cc.chOf,C0 B0]);clear h95 hs2 z102 he102 h102;exact LO);by_cases hs0:s=0;(·skip;have HF:Hid (Cc.stepC s false x=some (s,false,[x-64])):=A0 (by rw[Cc.step_ch s hs2 x h95,Cc.chOf,D0 ⟨hs0,by omega⟩]);have z0:(p==0)=true:=Y0.2 LN;clear h95 hs2 hs0 he102 h102;exact bI);·skip;have HF:Hid (Cc.stepC s false x=some (s,false,[x+32])):=A0 (by rw[Cc.step_ch s hs2 x h95,Cc.chOf,C0 (fun h=>hs0 h.1)]);have z0:(p==0)=false:=N0.2 LN;clear h95 hs2 hs0 he102 h102;exact LO);rcases(by omega:s=0∨s=1)with rfl|rfl;(·rcases(by omega:x=96∨x=97∨x=98∨x=99∨x=100∨x=101)with rfl|rfl|rfl|rfl|rfl|rfl;(·have HF:Hid (Cc.stepC 0 false 96=some (0,false,[258])):=A0 E4;have hp9:p=0:=HPS.out;exact bJ);(·have HF:Hid (Cc.stepC 0 false 97=some (0,false,[257])):=A0 E4;have hp9:p=0:=HPS.out;exact bK);(·have HF:Hid (Cc.stepC 0 false 98=some (0,true,[])):=A0 E4;have hp9:p=0:=HPS.out;exact QV);(·have HF:Hid (Cc.stepC 0 false 99=some (2,false,[])):=A0 E4;have hp9:p=0:=HPS.out;exact QV);(·have HF:Hid (Cc.stepC 0 false 100=some (1,false,[])):=A0 E4;have hp9:p=0:=HPS.out;exact QV);·have HF:Hid (Cc.stepC 0 false 101=some (0,false,[259])):=A0 E4;have hp9:p=0:=HPS.out;exact bL);·rcases(by omega:x=96∨x=97∨x=98∨x=99∨x=100∨x=101)with rfl|rfl|rfl|rfl|rfl|rfl;(·have HF:Hid (Cc.stepC 1 false 96=some (1,false,[258])):=A0 E4;have hp9:p=1:=HPS.out;exact bJ);(·have HF:Hid (Cc.stepC 1 false 97=some (1,false,[257])):=A0 E4;have hp9:p=1:=HPS.out;exact bK);(·have HF:Hid (Cc.stepC 1 false 98=some (1,true,[])):=A0 E4;have hp9:p=1:=HPS.out;exact QV);(·have HF:Hid (Cc.stepC 1 false 99=some (2,false,[])):=A0 E4;have hp9:p=1:=HPS.out;exact QV);(·have HF:Hid (Cc.stepC 1 false 100=some (1,false,[259])):=A0 E4;have hp9:p=1:=HPS.out;exact bL);·have HF:Hid (Cc.stepC 1 false 101=some (0,false,[])):=A0 E4;have hp9:p=1:=HPS.out;exact QV
end
end Go.Proofs.YtbngggoccndefaaGreatDoor
