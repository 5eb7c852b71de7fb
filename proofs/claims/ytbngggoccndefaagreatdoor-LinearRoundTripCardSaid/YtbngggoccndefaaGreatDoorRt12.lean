/-
  Laid.
-/
import Derived.Test.YtbngggoccndefaaGreatDoorRt04
import Derived.Test.YtbngggoccndefaaGreatDoorRt11
set_option maxHeartbeats 8000000
set_option maxRecDepth 100000
set_option linter.all false
namespace Go.Proofs.YtbngggoccndefaaGreatDoor
open Go.Proofs.Tryz
section
open Go.RowKit
def SlK (w:World) (v:Value) (xs:List Value):Prop:=Sl w v xs∧∃a c,v=.slice a xs.length c∧xs.length<=c
theorem SlK.ext {w w':World} {v:Value} {xs:List Value} (h:SlK w v xs) (hx:Ext w w'):SlK w' v xs:=⟨h.1.ext hx,h.2⟩
theorem Own.slk {t:TypeId} {w:World} {B:Nat} {v:Value} {xs:List Value} (h:Own t w B v xs):SlK w v xs:=by
 refine⟨h.sl,?_⟩;rcases h.2 with⟨hnil,h0⟩|⟨g,cap,cur,hv,_,_,h1,_⟩;·exact⟨none,0,by rw[hnil,h0],by rw[h0];exact I0 _⟩
 ·exact⟨_,cap,hv,h1⟩
theorem LG {w:World} {a:Option Addr} {c:Nat} {xs:List Value} {l h:Nat} (hs:Sl w (.slice a xs.length c) xs) (hc:xs.length<=c) (hl:l<=h) (hh:h<=xs.length):
 SlK w (sliced a l h c 1) ((xs.drop l).take (h-l)):=by
 have hlen:((xs.drop l).take (h-l)).length=h-l:=NP
 unfold sliced
 refine⟨?_,_,c-l,by rw[hlen],by rw[hlen];omega⟩
 by_cases hz:h-l=0
 ·left;exact⟨V2 (by rw[hlen];exact hz),_,_,by rw[hz]⟩
 ·right;rw[D0 C0,U8];rcases hs with⟨h0,_⟩|⟨b,off,cap,he,hb,hcell⟩;(·rw[h0]at hh;simp at hh;omega);·injection he with h1 h2 h3;subst h1;refine⟨b,off+l,c-l,by rw[hlen];simp[XF],hb,fun i hi=> ?_⟩;rw[hlen]at hi;rw[Nat.add_assoc,hcell (l+i) C0,XX,G0 hi,YJ]
theorem SlK.nil (w:World):SlK w (.slice none 0 0) []:=⟨.inl ⟨rfl,none,0,rfl⟩,none,0,rfl,I0 _⟩
theorem SlK.row {w:World} {b:Nat} {t:TypeId} {n:Nat} {f:Nat->Value} (h:w.rowIs b t n f):SlK w (.slice (some ⟨b,0,none⟩) n n) ((List.range n).map f):=
 ⟨Sl.row h,_,n,by rw[N0,G7],by rw[N0,G7];exact I0 _⟩
theorem SlK.congr {w:World} {v:Value} {xs ys:List Value} (h:SlK w v xs) (e:xs=ys):SlK w v ys:=e▸h
theorem cC (w:World):(sizeOf 4).run prog w=.ok 1 w:=Y0
theorem cE {w:World} {v:Value} {xs:List Value} (hs:SlK w v xs) (l h:Nat) (hl:l<=h) (hh:h<=xs.length):
 ∃v',(∀w',(Instr.slice 26 v (some (.int .i64 (l:Int))) (some (.int .i64 (h:Int))) none).run prog w'=.ok v' w')∧SlK w v' ((xs.drop l).take (h-l)):=by
 obtain⟨hsl,a,c,rfl,hc⟩:=hs
 refine⟨_,fun w'=> ?_,LG hsl hc hl hh⟩
 have e:prog.elem 26=4:=Y0
 have ht:prog.underlying 26=some (.slice (prog.elem 26)):=by rw[e];exact underlying26
 rw[run_slice_lh w' 26 a xs.length c ht .i64 .i64 (l:Int) (h:Int) C0 C0 C0,e,cC]
 rfl
def ZT (r:List Bool×Int) (w:World) (e:Ending) (w':World):Prop:=∃v,e=.returned (.tuple #[v,.int .i64 r.2])∧SlK w' v (r.1.map encT)∧Ext w w'
theorem Sl.int_at {w wr:World} {a:Option Addr} {n c:Nat} {ws:List Int} (h:Sl w (.slice a n c) (ws.map encI)) (hx:Ext w wr) {i:Nat} {x:Int} (hi:ws[i]? =some x):∃b o,a=some ⟨b,o,none⟩∧b<w.heap.size∧wr.cell? ⟨b,o+i,none⟩=some (.int .i64 x):=Q2
theorem Sl.bool_at {w wr:World} {a:Option Addr} {n c:Nat} {ws:List Bool} (h:Sl w (.slice a n c) (ws.map encT)) (hx:Ext w wr) {i:Nat} {x:Bool} (hi:ws[i]? =some x):∃b o,a=some ⟨b,o,none⟩∧b<w.heap.size∧wr.cell? ⟨b,o+i,none⟩=some (.bool x):=Q2
theorem Z2 {α:Type} {l:List α} {i:Nat} {x:α} (h:l[i]? =some x):l.take (i+1)=l.take i++[x]:=by rw[R5,h];rfl
theorem Rn.mods_snoc:∀(l:List Int) (x:Int) (b:Bool),Rn.mods b (l++[x])=Rn.mods b l++List.replicate x.toNat (if l.length%2=0 then b else !b)
 | [],x,b=>by simp[Rn.mods]
 |y::l,x,b=>by rw[P2,Rn.mods,Rn.mods,Rn.mods_snoc l x (!b),G1,S0];exact EM
theorem Rn.sum_snoc (l:List Int) (x:Int):Rn.sum (l++[x])=Rn.sum l+x:=by rw[Rn.sum_app,Rn.sum_cons,Rn.sum_nil];omega
theorem Rn.sum_in {l:List Int} (h:∀x∈l,1<=x∧x<=65536):0<=Rn.sum l∧Rn.sum l<=65536*(l.length:Int):=by
 induction l with
 |nil=>rw[Rn.sum_nil];simp
 |cons x l ih=>have h1:=h x (B1 ..);have h2:=ih fun y hy=>h y (C1 _ hy);rw[Rn.sum_cons,S0];omega
def SlN (w:World) (B:Nat) (v:Value) (xs:List Value):Prop:=Sl w v xs∧∀k,v.ownBlock=some k->B<=k∧k<w.heap.size
theorem SlN.ofOwn {t:TypeId} {w:World} {B:Nat} {v:Value} {xs:List Value} (h:Own t w B v xs):SlN w B v xs:=⟨h.sl,fun k hk=>J4 h k hk⟩
theorem SlN.ext {w w':World} {B:Nat} {v:Value} {xs:List Value} (h:SlN w B v xs) (hx:Ext w w'):SlN w' B v xs:=⟨h.1.ext hx,fun k hk=>⟨(h.2 k hk).1,M1 (h.2 k hk).2 hx.size⟩⟩
theorem SlN.mono {w:World} {B B':Nat} {v:Value} {xs:List Value} (h:SlN w B v xs) (hb:B'<=B):SlN w B' v xs:=⟨h.1,fun k hk=>⟨L3 hb (h.2 k hk).1,(h.2 k hk).2⟩⟩
def LH (w w':World) (v v':Value):Prop:=∀B u xs,SlN w B u xs->ZN v u->SlN w' B u xs∧ZN v' u
theorem LH.grow {w w':World} {v v':Value} (hg:w.grownBy w' v.ownBlock) (n:Nat) (hn:w.heap.size<=n) (hat:v'.ownBlock=v.ownBlock∨v'.ownBlock=some n):LH w w' v v':=by
 intro B u xs hs ha;have hsz:=hg.size;have hap:ZN v' u:=by rcases hat with e|e;(·unfold ZN;rw[e];exact ha);·refine .inr ?_;rw[e];intro h1;have:=(hs.2 n h1.symm).2;omega
 refine⟨⟨?_,fun k hk=>⟨(hs.2 k hk).1,M1 (hs.2 k hk).2 hsz⟩⟩,hap⟩;rcases hs.1 with h|⟨b,off,cap,h1,h2,h3⟩;·exact .inl h
 ·refine .inr ⟨b,off,cap,h1,M1 h2 hsz,fun i hi=> ?_⟩;have hb:w'.heap[b]? =w.heap[b]? :=hg.block b h2 (by rcases ha.symm with e|e;(·rw[h1]at e;simp[Value.ownBlock]at e);·rw[h1]at e;simpa[Value.ownBlock]using e);rw[<-h3 i hi];exact LI (w:=w) (a:=⟨b,off+i,none⟩) hb
theorem BV {w:World} {ops:Array Oper} {rest:List Oper} {o:Oper} {a:Act} {Q:Exit->Act->World->Prop} (hgd:o.guard=none) (s x:Operand)
 (ho:o.op=.call {callee:=.builtin .append,args:= #[s,x],argTypes:= #[43,43]})
 (B:Nat) (v:Value) (l:List Int) (hs:a.eval s=v) (hown:Own 3 w B v (l.map encI)) (b:Nat) (u:Int) (hx:a.eval x=.slice (some ⟨b,0,none⟩) 1 1)
 (hc:w.cell? ⟨b,0,none⟩=some (encI u)) (hn:l.length<=999999999) (hB:B<=w.heap.size)
 (h:∀v' w',Own 3 w' B v' ((l++[u]).map encI)->w.grownBy w' v.ownBlock->(v'.ownBlock=v.ownBlock∨v'.ownBlock=some w.heap.size)->wpList prog ops Q rest (a.put o.dst v') w'):wpList prog ops Q (o::rest) a w:=
 SK hgd s x 43 3 (.int .i64 0) 8 ho underlying43 XI rfl J0 B v _ hs hown b 0 1 1 [encI u] hx rfl
  (fun j u' hj=>by
   match j with
   |0=>simp only[E3,A2]at hj;subst hj;exact hc
   |j+1=>simp at hj)
  (fun u' hu=>by simp only[Y2]at hu;subst hu;rfl) D5 hB
  (fun v' w' h1 h2 h3=>h v' w' XH h2 h3)
theorem cF (t:TypeId) (n:Nat) (ht:prog.underlying t=some (.array n 9)) (cs:Array Value) (i:Nat) (hi:i<n) (x:Value) (hx:cs[i]? =some x) (w:World):
 (Instr.index t (.agg cs) (.int .i64 (i:Int))).run prog w=.ok x w:=by
 have h2:=Tryz.sizeOf9 w
 simp[Instr.index,YK ht,asIntOf,part,hx,h2,go_sem]
 omega
theorem Ext.rowX {a w:World} {b:Nat} {t:TypeId} {n:Nat} {f:Nat->Value} (h:a.rowIs b t n f) (hx:Ext a w):w.rowIs b t n f:=h.of_block (hx.block _ h.lt)
theorem ZS (R:Array Value) (hR:R.size=10) (h1:R.all (·.oneCell')=true) (w:World):
 (storeCells ⟨w.heap.size,0,none⟩ R.toList).run prog (w.alloc (.cells #[.string ⟨#[]⟩,.string ⟨#[]⟩,.string ⟨#[]⟩,.string ⟨#[]⟩,.string ⟨#[]⟩,.string ⟨#[]⟩,.string ⟨#[]⟩,.string ⟨#[]⟩,.string ⟨#[]⟩,.string ⟨#[]⟩] 210))=.ok () (w.alloc (.cells R 210)):=
 run_storeCells_new w 210 _ R (by rw[hR];kernel_rfl) (by rw[hR];rfl) h1
theorem cG (R:Array Value) (t:TypeId) (w:World):(w.alloc (.cells R t)).rowIs w.heap.size t R.size (fun i=>R.getD i undef):=
 RI w R t _ (fun i hi=>by simp[hi])
theorem E9 (R:Array Value) (t:TypeId) (w:World) {i:Nat} {x:Value} (h:R[i]? =some x):(w.alloc (.cells R t)).cell? ⟨w.heap.size,i,none⟩=some x:=by
 have hi:i<R.size:=by rcases N5 i R.size with h'|h';(·exact h');·rw[XY h']at h;cases h
 rw[(cG R t w).cell hi];simp only[BW,h];rfl
def GB (row:Option Nat) (w w':World):Prop:=w.grownBy w' row
theorem GB.refl {row:Option Nat} (w:World):GB row w w:=⟨rfl,rfl,rfl,I0 _,fun _ _ _=>rfl⟩
theorem GB.trans {row:Option Nat} {a b c:World} (h:GB row a b) (k:GB row b c):GB row a c:=World.grownBy.trans h k
theorem GB.ext {row:Option Nat} {a b:World} (h:Ext a b):GB row a b:=⟨h.os,h.tape,h.output,h.size,fun i hi _=>h.block i hi⟩
theorem GB.drew {row:Option Nat} {a w:World} (h:GB row a w):GB row a w.drew:=h.trans (GB.ext (Ext.refl w).drew)
theorem GB.alloc {row:Option Nat} {a w:World} (h:GB row a w) (o:Obj):GB row a (w.alloc o):=h.trans (GB.ext ((Ext.refl w).alloc o))
theorem GB.size {row:Option Nat} {a w:World} (h:GB row a w):a.heap.size<=w.heap.size:=World.grownBy.size h
theorem GB.heap {row:Option Nat} {a w:World} (h:GB row a w) {b:Nat} {o:Obj} (hb:a.heap[b]? =some o) (hne:row≠some b):w.heap[b]? =some o:=by rw[World.grownBy.block h b (F3.1 hb).1 (fun e=>hne e.symm)];exact hb
end
section
open Go.RowKit Go.Maps Go
section
variable {P:Program} {w:World} {k e:TypeId} {T:TypeId} {α:Type} {key:α->Value}
def RM:Value->Option (DataW Unit×List MemPlace)
 | .int .i64 n=>some (.lit (.int .i64 n),[])
 |_=>none
theorem AJ {v:Value} {z:DataW Unit×List MemPlace} (h:RM v=some z):∃n,v=.int .i64 n∧z=(.lit (.int .i64 n),[]):=by
 unfold RM at h;split at h;·exact⟨_,rfl,(LL h).symm⟩
 ·cases h
def MapV (P:Program) (k:TypeId) {α:Type} (key:α->Value) (w:World) (b n:Nat) (f:α->Option Int):Prop:=
 ∃(D:DataW Unit),w.ownsMap P k RM b n D∧∀v l,keyOf P k (key v)=some l->Maps.has D l=(f v).isSome∧D.atKey l (.lit (.int .i64 0))=.lit (.int .i64 ((f v).getD 0))
theorem MapV.made (w:World):MapV P k key (w.alloc (.map #[] 0)) w.heap.size 0 (fun _=>none):=
 ⟨.map [],(World.ownsMap_made w P k RM).mono (I0 _),fun _ _ _=>⟨rfl,rfl⟩⟩
theorem MapV.get {b n:Nat} {f:α->Option Int} (h:MapV P k key w b n f) (K:Keyed P k) (ht:P.underlying T=some (.map k e)) (hz:(zeroValue e).run P w=.ok (.int .i64 0) w) {v:α} {l:Lit} (hv:keyOf P k (key v)=some l):
 (Instr.lookup T (.map (some b)) (key v) true).run P w=.ok (.tuple #[.int .i64 ((f v).getD 0),.bool (f v).isSome]) w:=by
 obtain⟨D,ho,hat⟩:=h
 obtain⟨h1,h2⟩:=hat v l hv
 obtain⟨x,ps,hrun,hR⟩:=ho.look_ok (t:=T) K ht hz (zd:=.lit (.int .i64 0)) (zp:=[]) rfl hv
 obtain⟨m,rfl,hm⟩:=AJ hR
 have hm1:=R0 Prod.fst hm
 dsimp only at hm1
 rw[h2]at hm1
 injection hm1 with hm1
 injection hm1 with _ hm1
 rw[h1,<-hm1]at hrun
 exact hrun
theorem MapV.get1 {b n:Nat} {f:α->Option Int} (h:MapV P k key w b n f) (K:Keyed P k) (ht:P.underlying T=some (.map k e)) (hz:(zeroValue e).run P w=.ok (.int .i64 0) w) {v:α} {l:Lit} (hv:keyOf P k (key v)=some l):
 (Instr.lookup T (.map (some b)) (key v) false).run P w=.ok (.int .i64 ((f v).getD 0)) w:=by
 obtain⟨D,ho,hat⟩:=h
 obtain⟨h1,h2⟩:=hat v l hv
 obtain⟨es,clock,hb,F,_,rfl⟩:=ho
 rcases Maps.fit_look false K ht hz hb F hv with⟨hrun,_,h3⟩|⟨e0,y,_,_,hrun,hRv,h3,_⟩
 ·rw[h3]at h2;injection h2 with h2;injection h2 with _ h2;rw[<-h2];exact hrun
 ·rw[h3]at h2;obtain⟨c,hc,rfl⟩:=AJ hRv;injection h2 with h2;injection h2 with _ h2;rw[<-h2,<-hc];exact hrun
theorem MapV.put [DecidableEq α] {b n:Nat} {f:α->Option Int} (h:MapV P k key w b n f) (K:Keyed P k) (ht:P.underlying T=some (.map k e)) {v:α} {l:Lit} (hv:keyOf P k (key v)=some l) (m:Int) (hn:n<maxLen) (hinj:∀a b:α,key a=key b->a=b):
 ∃w',(Instr.mapUpdate T (.map (some b)) (key v) (.int .i64 m)).run P w=.ok () w'∧MapV P k key w' b (n+1) (fun x=>if x=v then some m else f x)∧w.grownBy w' (some b):=by
 obtain⟨D,ho,hat⟩:=h
 obtain⟨w',hrun,ho',ht'⟩:=ho.store (t:=T) K ht hn hv (val:=.int .i64 m) (d:=.lit (.int .i64 m)) (ps:=[]) rfl
 refine⟨w',hrun,⟨_,ho',fun v' l' hv'=> ?_⟩,ht'.grown⟩
 by_cases h:v'=v
 ·subst h;have hl:l'=l:=LL (hv'.symm.trans hv);subst hl;rw[atKey_put_same ho.isMap (K.key hv),has_put_same ho.isMap (K.key hv)];dsimp only;rw[G0 rfl];exact Q3
 ·have hne:l'≠l:=fun e=>h (hinj _ _ (K.inj hv' (e▸hv)));rw[atKey_put_other hne,has_put_other hne];dsimp only;rw[D0 h];exact hat v' l' hv'
theorem MapV.kept {w':World} {b n:Nat} {f:α->Option Int} (h:MapV P k key w b n f) {row:Option Nat} (hg:w.grownBy w' row) (hne:row≠some b):MapV P k key w' b n f:=by obtain⟨D,ho,hat⟩:=h;exact⟨D,ho.kept hg (fun e=>hne e.symm),hat⟩
theorem MapV.lt {b n:Nat} {f:α->Option Int} (h:MapV P k key w b n f):b<w.heap.size:=by obtain⟨D,ho,_⟩:=h;exact ho.lt
end
end
section
namespace Hp
section
variable {α:Type} (lt:α->α->Bool)
def swap (l:List α) (i j:Nat):List α:=match l[i]?,l[j]? with
 |some a,some b=>(l.set i b).set j a
 |_,_=>l
theorem swap_len (l:List α) (i j:Nat):(swap l i j).length=l.length:=by unfold swap;split<;>simp
theorem swap_at {l:List α} {i j:Nat} {a b:α} (hi:l[i]? =some a) (hj:l[j]? =some b) (k:Nat):(swap l i j)[k]? =if k=j then some a else if k=i then some b else l[k]? :=by
 unfold swap;rw[hi,hj];have h1:=(J1.1 hi).1;have h2:=(J1.1 hj).1;dsimp only;by_cases hkj:k=j;·subst hkj;rw[G0 rfl,P7 F4]
 ·rw[D0 hkj,I9 (fun e=>hkj e.symm)];by_cases hki:k=i;(·subst hki;rw[G0 rfl,P7 h1]);·rw[D0 hki,I9 (fun e=>hki e.symm)]
theorem swap_perm {l:List α} {i j:Nat} {a b:α} (hi:l[i]? =some a) (hj:l[j]? =some b):(swap l i j).Perm l:=by obtain⟨h1,e1⟩:=J1.1 hi;obtain⟨h2,e2⟩:=J1.1 hj;unfold swap;rw[hi,hj];dsimp only;subst e1 e2;exact List.set_set_perm h1 h2
def NL (l:List α) (c k:Nat):Prop:=∀a b,l[c]? =some a->l[k]? =some b->lt a b=false
structure Near (l:List α) (k0 i:Nat):Prop where
 up:∀k c,k0<=k->k≠i->(c=2*k+1∨c=2*k+2)->NL lt l c k
 over:∀k c,k0<=k->(i=2*k+1∨i=2*k+2)->(c=2*i+1∨c=2*i+2)->NL lt l c k
def Heap (l:List α) (k0:Nat):Prop:=∀k c,k0<=k->(c=2*k+1∨c=2*k+2)->NL lt l c k
theorem Heap.last (l:List α) {k0:Nat} (h:l.length<=2*k0+1):Heap lt l k0:=by intro k c hk hc a b ha;have:=(J1.1 ha).1;omega
theorem Heap.near {l:List α} {k0:Nat} (h:Heap lt l (k0+1)):Near lt l k0 k0:=
 ⟨fun k c hk hne hc=>h k c C0 hc,fun k c hk hi hc=>by omega⟩
theorem Heap.set {l:List α} {k0:Nat} (h:Heap lt l (k0+1)) (x:α):Heap lt (l.set k0 x) (k0+1):=by intro k c hk hc a b ha hb;rw[I9 C0]at ha hb;exact h k c hk hc a b ha hb
theorem Heap.weak {l:List α} {k0 k1:Nat} (h:Heap lt l k0) (hk:k0<=k1):Heap lt l k1:=fun k c h1 hc=>h k c C0 hc
variable {lt}
theorem Near.done {l:List α} {k0 i:Nat} (h:Near lt l k0 i) (hi:∀c,(c=2*i+1∨c=2*i+2)->NL lt l c i):Heap lt l k0:=by
 intro k c hk hc;by_cases e:k=i;·subst e;exact hi c hc
 ·exact h.up k c hk e hc
theorem Near.step (tr:∀a b c,lt a b=false->lt b c=false->lt a c=false) (asx:∀a b,lt a b=true->lt b a=false) {l:List α} {k0 i j:Nat} (h:Near lt l k0 i) (hki:k0<=i) (hj:j=2*i+1∨j=2*i+2) {a b:α} (hi:l[i]? =some a) (hb:l[j]? =some b) (hlt:lt b a=true)
 (hmin:∀c,(c=2*i+1∨c=2*i+2)->∀x,l[c]? =some x->lt x b=false):Near lt (swap l i j) k0 j:=by
 have hs:=swap_at hi hb
 have hij:i≠j:=by omega
 constructor
 ·intro k c hk hkj hc x y hx hy;rw[hs]at hx hy;rw[D0 hkj]at hy;by_cases hki2:k=i;(·subst hki2;rw[G0 rfl]at hy;injection hy with hy;subst hy;by_cases hcj:c=j;(·rw[G0 hcj]at hx;injection hx with hx;subst hx;exact asx _ _ hlt);·rw[D0 hcj,D0 C0]at hx;exact hmin c hc x hx);·rw[D0 hki2]at hy;by_cases hci:c=i;(·subst hci;rw[D0 hij,G0 rfl]at hx;injection hx with hx;subst hx;exact h.over k j hk hc hj _ _ hb hy);·by_cases hcj:c=j;(·omega);·rw[D0 hcj,D0 hci]at hx;exact h.up k c hk hki2 hc x y hx hy
 ·intro k c hk hkk hc x y hx hy;have e:k=i:=C0;subst e;rw[hs,D0 C0,D0 C0]at hx;rw[hs,D0 hij,G0 rfl]at hy;injection hy with hy;subst hy;exact h.up j c C0 C0 hc x b hx hb
theorem Heap.root (tr:∀a b c,lt a b=false->lt b c=false->lt a c=false) (ir:∀a,lt a a=false) {l:List α} (h:Heap lt l 0) {r:α} (hr:l[0]? =some r):∀(n k:Nat),k<=n->∀x,l[k]? =some x->lt x r=false:=by
 intro n
 induction n with
 |zero=>intro k hk x hx;obtain rfl:k=0:=C0;rw[hr]at hx;injection hx with hx;subst hx;exact ir _
 |succ n ih=>intro k hk x hx;by_cases h0:k=0;(·subst h0;rw[hr]at hx;injection hx with hx;subst hx;exact ir _);·have hkl:=(J1.1 hx).1;have hp:(k-1)/2<l.length:=C0;have h1:=h ((k-1)/2) k (U0 _) C0 x _ hx (P0 hp);exact tr _ _ _ h1 (ih ((k-1)/2) C0 _ (P0 hp))
end
theorem nodup_le {α:Type} [DecidableEq α]:∀(l m:List α),l.Nodup->(∀x∈l,x∈m)->l.length<=m.length
 | [],_,_,_=>U0 _
 |x::l,m,hn,hs=>by rw[RO]at hn;have hx:=hs x (B1 ..);have:=nodup_le l (m.erase x) hn.2 fun y hy=>(List.mem_erase_of_ne (fun e=>hn.1 (by rw[<-e];exact hy))).2 (hs y (C1 _ hy));rw[List.length_erase_of_mem hx]at this;have hp:0<m.length:=List.length_pos_of_mem hx;rw[S0];omega
structure Sh where
 ix:Int
 md:Int
 ct:Int
def lessS (a b:Sh):Bool:=if a.ct=b.ct then decide (a.ix<b.ix)else decide (a.ct<b.ct)
theorem lessS_tr (a b c:Sh) (h1:lessS a b=false) (h2:lessS b c=false):lessS a c=false:=by unfold lessS at*;split at h1<;>split at h2<;>split<;>simp at* <;>omega
theorem lessS_as (a b:Sh) (h:lessS a b=true):lessS b a=false:=by unfold lessS at*;split at h<;>split<;>simp at* <;>omega
theorem lessS_ir (a:Sh):lessS a a=false:=by unfold lessS;simp
structure Que (s t:Int) (ws ms:List Int) (q:List Sh):Prop where
 len:q.length=ws.length
 ml:ms.length=ws.length
 nod:(q.map (·.ix)).Nodup
 at_:∀x∈q,∃(k:Nat) (m w:Int),x.ix=(k:Int)∧ms[k]? =some m∧ws[k]? =some w∧x.md=m∧x.ct=2*Rn.need s t m w+s
theorem Que.perm {s t:Int} {ws ms:List Int} {q q':List Sh} (h:Que s t ws ms q) (hp:q'.Perm q):Que s t ws ms q':=
 ⟨hp.length_eq.trans h.len,h.ml,(hp.map _).nodup_iff.2 h.nod,fun x hx=>h.at_ x (hp.mem_iff.1 hx)⟩
theorem Que.has {s t:Int} {ws ms:List Int} {q:List Sh} (h:Que s t ws ms q) {k:Nat} (hk:k<ws.length):∃x∈q,x.ix=(k:Int):=by
 have key:∀(l:List Int) (n:Nat),l.Nodup->l.length=n->(∀x∈l,0<=x∧x<(n:Int))->∀k:Nat,k<n->(k:Int)∈l:=by intro l n hn hl hb k hk;by_cases hm:(k:Int)∈l;(·exact hm);·exfalso;have hkm:(k:Int)∈(List.range n).map (fun(i:Nat)=>(i:Int)):=J3.2 ⟨k,N4.2 hk,rfl⟩;have h1:=nodup_le l (((List.range n).map (fun(i:Nat)=>(i:Int))).erase (k:Int)) hn (fun x hx=>by have:=hb x hx;refine(List.mem_erase_of_ne (fun e=>hm (by rw[<-e];exact hx))).2 (J3.2 ⟨x.toNat,N4.2 C0,by omega⟩));rw[List.length_erase_of_mem hkm,N0,G7]at h1;omega
 have hm:=key (q.map (·.ix)) ws.length h.nod (by rw[N0,h.len]) (fun x hx=>by obtain⟨y,hy,rfl⟩:=J3.1 hx;obtain⟨k,m,w,e,h1,h2,_⟩:=h.at_ y hy;have:=(J1.1 h2).1;omega) k hk;obtain⟨x,hx,e⟩:=J3.1 hm;exact⟨x,hx,e⟩
theorem Que.least {s t:Int} {ws ms:List Int} {q:List Sh} (h:Que s t ws ms q) {r:Sh} (hr:q[0]? =some r) (hh:Heap lessS q 0):∃(k:Nat) (m w:Int),r.ix=(k:Int)∧Rn.least s t ms ws=k∧ms[k]? =some m∧ws[k]? =some w∧r.md=m∧r.ct=2*Rn.need s t m w+s:=by
 obtain⟨k,m,w,e1,e2,e3,e4,e5⟩:=h.at_ r (I1 hr);have key:∀(j:Nat) (m' w':Int),ms[j]? =some m'->ws[j]? =some w'->∃x,lessS x r=false∧x.ix=(j:Int)∧x.ct=2*Rn.need s t m' w'+s:=by intro j m' w' hm hw;obtain⟨x,hx,hix⟩:=h.has (J1.1 hw).1;obtain⟨j2,m2,w2,f1,f2,f3,f4,f5⟩:=h.at_ x hx;have:j2=j:=C0;subst this;rw[hm]at f2;rw[hw]at f3;injection f2 with f2;injection f3 with f3;subst f2 f3;obtain⟨i,hi⟩:=LO hx;exact⟨x,hh.root lessS_tr lessS_ir hr i i (I0 _) x hi,f1,f5⟩
 refine⟨k,m,w,e1,Rn.least_is h.ml e2 e3 ?_ ?_,e2,e3,e4,e5⟩;·intro j m' w' hm hw;exact AN
 ·intro j m' w' hj hm hw;exact AN
theorem Que.give {s t:Int} {ws ms:List Int} {q:List Sh} (h:Que s t ws ms q) {r:Sh} (hr:q[0]? =some r) {k:Nat} {m:Int} (hk:r.ix=(k:Int)) (hm:ms[k]? =some m):
 Que s t ws (ms.set k (m+1)) (q.set 0 ⟨r.ix,r.md+1,r.ct+2*s⟩):=by
 obtain⟨q',rfl⟩:∃q',q=r::q':=by
  cases q with
  |nil=>simp at hr
  |cons a q'=>simp at hr;subst hr;exact⟨q',rfl⟩
 refine⟨by rw[O6];exact h.len,by rw[O6];exact h.ml,?_,?_⟩
 ·have:=h.nod;exact V6
 ·intro x hx;simp only[Y9,U1]at hx;have hnd:=h.nod;rw[Y4,RO]at hnd;rcases hx with rfl|hx;(·obtain⟨k2,m2,w2,e1,e2,e3,e4,e5⟩:=h.at_ r (B1 ..);have:k2=k:=C0;subst this;rw[hm]at e2;injection e2 with e2;subst e2;refine⟨k2,m+1,w2,hk,P7 (J1.1 hm).1,e3,by dsimp only;omega,?_⟩;dsimp only;unfold Rn.need at*;rw[e5,Int.mul_add];omega);·obtain⟨k2,m2,w2,e1,e2,e3,e4,e5⟩:=h.at_ x (C1 _ hx);have hne:k≠k2:=(by intro e;subst e;exact hnd.1 (J3.2 ⟨x,hx,by rw[e1,hk]⟩));exact⟨k2,m2,w2,e1,by rw[I9 hne];exact e2,e3,e4,e5⟩
end Hp
namespace Hp
def start (s t:Int) (ws:List Int):List Sh:=(List.range ws.length).map fun(i:Nat)=>⟨(i:Int),1,3*s-2*t*ws.getD i 0⟩
theorem start_len (s t:Int) (ws:List Int):(start s t ws).length=ws.length:=by unfold start;rw[N0,G7]
theorem start_at (s t:Int) {ws:List Int} {i:Nat} {w:Int} (h:ws[i]? =some w):(start s t ws)[i]? =some ⟨(i:Int),1,3*s-2*t*w⟩:=by have hl:=(J1.1 h).1;unfold start;rw[X2,List.getElem?_range hl,H7,A1,h];rfl
theorem nodup_cast (n:Nat):((List.range n).map fun(i:Nat)=>(i:Int)).Nodup:=by rw[List.nodup_iff_pairwise_ne,List.pairwise_map];exact List.nodup_range.imp (fun h e=>h C0)
theorem Que.start (s t:Int) (ws:List Int):Que s t ws (List.replicate ws.length 1) (start s t ws):=by
 refine⟨start_len s t ws,C3,?_,?_⟩;·unfold Hp.start;rw[D6];exact nodup_cast ws.length
 ·intro x hx;obtain⟨i,hi⟩:=LO hx;have hl:i<ws.length:=(by have:=(J1.1 hi).1;rw[start_len]at this;exact R2);rw[start_at s t (P0 hl)]at hi;injection hi with hi;subst hi;refine⟨i,1,ws[i],rfl,?_,P0 hl,rfl,?_⟩;(·rw[List.getElem?_replicate,G0 hl]);·dsimp only;unfold Rn.need;have:2*t*ws[i]=2*(t*ws[i]):=Int.mul_assoc ..;omega
def Got (ms:List Int) (q:List Sh) (j:Nat) (out:List Int):Prop:=out.length=ms.length∧∀(i:Nat) (x:Sh) (k:Nat),i<j->q[i]? =some x->x.ix=(k:Int)->out[k]? =ms[k]?
theorem Got.zero {ms:List Int} {q:List Sh} {out:List Int} (h:out.length=ms.length):Got ms q 0 out:=⟨h,fun i x k hi=>by omega⟩
theorem Got.next {ms:List Int} {q:List Sh} {j:Nat} {out:List Int} (h:Got ms q j out) {x:Sh} (hx:q[j]? =some x) {k:Nat} (hk:x.ix=(k:Int)) (hm:ms[k]? =some x.md):Got ms q (j+1) (out.set k x.md):=by
 refine⟨by rw[O6];exact h.1,fun i y k2 hi hy hk2=> ?_⟩;by_cases e:k=k2;·subst e;have:=(J1.1 hm).1;rw[P7 (by rw[h.1];exact this),hm]
 ·rw[I9 e];by_cases hij:i=j;(·subst hij;rw[hx]at hy;injection hy with hy;subst hy;omega);·exact h.2 i y k2 C0 hy hk2
theorem Got.all {s t:Int} {ws ms:List Int} {q:List Sh} (hq:Que s t ws ms q) {j:Nat} {out:List Int} (h:Got ms q j out) (hj:q.length<=j):out=ms:=by
 apply UM;intro k;by_cases hk:k<ws.length;·obtain⟨x,hx,e⟩:=hq.has hk;obtain⟨i,hi⟩:=LO hx;have:=(J1.1 hi).1;exact h.2 i x k C0 hi e
 ·rw[YN (by rw[h.1,hq.ml];omega),YN (by rw[hq.ml];omega)]
theorem give_last (s t:Int) (ws:List Int):∀(n:Nat) (ms:List Int),Rn.give s t ws (n+1) ms=(fun l=>l.set (Rn.least s t l ws) (l.getD (Rn.least s t l ws) 0+1)) (Rn.give s t ws n ms)
 |0,ms=>rfl
 |n+1,ms=>by rw[Rn.give,give_last s t ws n];rfl
def Few (n:Nat) (ms:List Int):Prop:=∀m∈ms,1<=m∧m<=(n:Int)+1
theorem Few.ones (n:Nat):Few 0 (List.replicate n 1):=fun m hm=>by obtain rfl:=(List.mem_replicate.1 hm).2;omega
theorem Few.give {n:Nat} {ms:List Int} (h:Few n ms) {k:Nat} {m:Int} (hm:ms[k]? =some m):Few (n+1) (ms.set k (m+1)):=fun x hx=>by
 have h1:=h m (I1 hm);rcases List.mem_or_eq_of_mem_set hx with hx|rfl;·have:=h x hx;omega
 ·omega
end Hp
end
section
open Go.RowKit
def Rn.rest (n:Nat):List Bool->List Nat
 | []=>[]
 |c::r=>Rn.runsGo c (n+1) r
theorem Rn.rest_one (n:Nat) (c:Bool):Rn.rest n [c]=[n+1]:=rfl
theorem Rn.rest_two (n:Nat) (c d:Bool) (r:List Bool):Rn.rest n (c::d::r)=if d=c then Rn.rest (n+1) (d::r)else(n+1)::Rn.rest 0 (d::r):=by
 show Rn.runsGo c (n+1) (d::r)=if d=c then Rn.runsGo d (n+1+1) r else(n+1)::Rn.runsGo d (0+1) r;rw[Rn.runsGo];by_cases h:d=c;·rw[G0 h,G0 h,h]
 ·rw[D0 h,D0 h]
theorem Rn.rest_core (m:List Bool):Rn.widthsN m=Rn.rest 0 ((m.take (m.length-Ea.trl m)).drop (Ea.ldg m)):=by
 have e:(m.take (m.length-Ea.trl m)).drop (Ea.ldg m)=Rn.core m:=by unfold Rn.core;rw[UD]
 rw[e];unfold Rn.widthsN Rn.rest;cases Rn.core m<;>rfl
theorem Rn.ldg_len (m:List Bool):Ea.ldg m<=m.length∧Ea.trl m<=m.length:=by refine⟨Rn.ldg_le m,?_⟩;unfold Ea.trl;have:=Rn.ldg_le m.reverse;rwa[P4]at this
end
end Go.Proofs.YtbngggoccndefaaGreatDoor
