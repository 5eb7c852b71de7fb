/-
  Laid together.
-/
import Derived.Test.YtbngggoccndefaaGreatDoorDd03
import Derived.Test.YtbngggoccndefaaGreatDoorDd07
set_option maxHeartbeats 16000000
set_option maxRecDepth 100000
set_option linter.unusedVariables false
set_option linter.unusedSimpArgs false
set_option linter.ambiguousOpen false
namespace Go.Proofs.YtbngggoccndefaaGreatDoor
open Go.Proofs.Tryz
section
open Go.RowKit
theorem ZQ {w:World} {ops:Array Oper} {rest:List Oper} {o:Oper} {a:Act} {Q:Exit->Act->World->Prop} (hgd:o.guard=none) (s x:Operand) (T t:TypeId) (z:Value) (bytes:Nat)
 (ho:o.op=.call {callee:=.builtin .append,args:= #[s,x],argTypes:= #[T,T]})
 (hT:prog.underlying T=some (.slice t)) (hi:(prog.info? t).map (fun i=>(i.zero,i.size,i.bytes))=some (some z,1,bytes)) (hz:z.cells.size=1) (hby:bytes<=16)
 (B:Nat) (v:Value) (xs:List Value) (hs:a.eval s=v) (hown:Own t w B v xs) (b off m c:Nat) (news:List Value) (hx:a.eval x=.slice (some ⟨b,off,none⟩) m c) (hm:news.length=m)
 (hc:∀j u,news[j]? =some u->w.cell? ⟨b,off+j,none⟩=some u) (h1:∀u∈news,u.oneCell'=true) (hn:xs.length+m<=1000000000) (hB:B<=w.heap.size)
 (h:∀v' w',Own t w' B v' (xs++news)->w.grownBy w' v.ownBlock->(v'.ownBlock=v.ownBlock∨v'.ownBlock=some w.heap.size)->wpList prog ops Q rest (a.put o.dst v') w'):wpList prog ops Q (o::rest) a w:=by
 obtain⟨i0,hi,hz0,hz1,hz2⟩:=ZoJ hi
 refine wpList_append_own_at _ hgd s x T ho B t i0 z 1 bytes hT hi hz0 hz1 hz2 hz QhP v xs.length xs hs hown ⟨b,off,none⟩ m c news hx (by rw[hm,Zpn]) ?_ h1 ?_ ?_ hB ?_
 ·intro j u hj;rw[Zal];exact hc j u hj
 ·exact QeT
 ·exact ZnF (ZoN hn hby) QhP
 ·intro v' w' h1 h2 _ h4;refine h v' w' ?_ h2 h4;unfold Own;rw[ZmM,hm];exact h1
theorem Zbw {w:World} {ops:Array Oper} {rest:List Oper} {o:Oper} {a:Act} {Q:Exit->Act->World->Prop} (hgd:o.guard=none) (s x:Operand)
 (ho:o.op=.call {callee:=.builtin .append,args:= #[s,x],argTypes:= #[90,90]})
 (B:Nat) (v:Value) (l:List UInt8) (hs:a.eval s=v) (hown:Own 5 w B v (l.map encB)) (b:Nat) (u:UInt8) (hx:a.eval x=.slice (some ⟨b,0,none⟩) 1 1)
 (hc:w.cell? ⟨b,0,none⟩=some (encB u)) (hn:l.length<=999999999) (hB:B<=w.heap.size)
 (h:∀v' w',Own 5 w' B v' (l.map encB++[encB u])->w.grownBy w' v.ownBlock->(v'.ownBlock=v.ownBlock∨v'.ownBlock=some w.heap.size)->wpList prog ops Q rest (a.put o.dst v') w'):wpList prog ops Q (o::rest) a w:=
 ZQ hgd s x 90 5 (.int .u8 0) 1 ho underlying90 Zap rfl QhP B v _ hs hown b 0 1 1 [encB u] hx rfl
  (fun j u' hj=>by
   match j with
   |0=>simp only[Znp,Znl]at hj;subst hj;exact hc
   |j+1=>simp at hj)
  (fun u' hu=>by simp only[Znz]at hu;subst hu;rfl) QhR hB h
theorem Zgq {w:World} {ops:Array Oper} {rest:List Oper} {o:Oper} {a:Act} {Q:Exit->Act->World->Prop} (hgd:o.guard=none) (s x:Operand)
 (ho:o.op=.call {callee:=.builtin .append,args:= #[s,x],argTypes:= #[90,90]})
 (B:Nat) (v:Value) (l:List UInt8) (hs:a.eval s=v) (hown:Own 5 w B v (l.map encB)) (b:Nat) (u u1:UInt8) (hx:a.eval x=.slice (some ⟨b,0,none⟩) 2 2)
 (hc:w.cell? ⟨b,0,none⟩=some (encB u)) (hc1:w.cell? ⟨b,1,none⟩=some (encB u1)) (hn:l.length<=999999998) (hB:B<=w.heap.size)
 (h:∀v' w',Own 5 w' B v' (l.map encB++[encB u,encB u1])->w.grownBy w' v.ownBlock->(v'.ownBlock=v.ownBlock∨v'.ownBlock=some w.heap.size)->wpList prog ops Q rest (a.put o.dst v') w'):wpList prog ops Q (o::rest) a w:=
 ZQ hgd s x 90 5 (.int .u8 0) 1 ho underlying90 Zap rfl QhP B v _ hs hown b 0 2 2 [encB u,encB u1] hx rfl
  (fun j u' hj=>by
   match j with
   |0=>simp only[Znp,Znl]at hj;subst hj;exact hc
   |1=>simp only[Zn2,Znp,Znl]at hj;subst hj;exact hc1
   |j+2=>simp at hj)
  (fun u' hu=>by simp only[Zn8,Zoy,ZpD]at hu;rcases hu with rfl|rfl<;>rfl) QhR hB h
def Apart (v u:Value):Prop:=v.ownBlock=none∨v.ownBlock≠u.ownBlock
theorem Apart.nil_left (u:Value):Apart (.slice none 0 0) u:=.inl rfl
theorem Apart.symm {v u:Value} (h:Apart v u):Apart u v:=by
 cases hv:u.ownBlock with
 |none=>exact .inl hv
 |some k=>rcases h with h|h;(·exact .inr (by rw[h,hv];simp));·exact .inr (by rw[hv];rw[hv]at h;exact fun e=>h e.symm)
theorem Apart.grow {t:TypeId} {w:World} {B:Nat} {v v' u:Value} {xs:List Value} (h:Apart v u) (hu:Own t w B u xs) (n:Nat) (hn:w.heap.size<=n) (hat:v'.ownBlock=v.ownBlock∨v'.ownBlock=some n):Apart v' u:=by
 rcases hat with e|e;·unfold Apart;rw[e];exact h
 ·refine .inr ?_;rw[e];intro h1;have:=(Zoe hu n h1.symm).2;omega
theorem Own.beside {t:TypeId} {w w':World} {B:Nat} {v u:Value} {xs:List Value} (h:Own t w B u xs) (hg:w.grownBy w' v.ownBlock) (ha:Apart v u):Own t w' B u xs:=by
 refine h.kept hg ?_;rcases ha.symm with e|e;·exact .inl e
 ·exact .inr e
def SlN (w:World) (B:Nat) (v:Value) (xs:List Value):Prop:=Sl w v xs∧∀k,v.ownBlock=some k->B<=k∧k<w.heap.size
theorem SlN.nil (w:World) (B:Nat):SlN w B (.slice none 0 0) []:=⟨.inl ⟨rfl,none,0,rfl⟩,fun k hk=>by simp[Value.ownBlock]at hk⟩
theorem SlN.ofOwn {t:TypeId} {w:World} {B:Nat} {v:Value} {xs:List Value} (h:Own t w B v xs):SlN w B v xs:=⟨h.sl,fun k hk=>Zoe h k hk⟩
theorem SlN.of {w:World} {B b o n c:Nat} {xs:List Value} (h:Sl w (.slice (some ⟨b,o,none⟩) n c) xs) (hn:0<xs.length) (hb:B<=b):SlN w B (.slice (some ⟨b,o,none⟩) n c) xs:=by
 refine⟨h,fun k hk=> ?_⟩;obtain⟨b',o',he,hl,_⟩:=h.at_ hn;injection he with he;injection he with h1;have:b=k:=by simpa[Value.ownBlock]using hk
 omega
theorem SlN.ext {w w':World} {B:Nat} {v:Value} {xs:List Value} (h:SlN w B v xs) (hx:Ext w w'):SlN w' B v xs:=⟨h.1.ext hx,fun k hk=>⟨(h.2 k hk).1,Znc (h.2 k hk).2 hx.size⟩⟩
theorem SlN.mono {w:World} {B B':Nat} {v:Value} {xs:List Value} (h:SlN w B v xs) (hb:B'<=B):SlN w B' v xs:=⟨h.1,fun k hk=>⟨ZnF hb (h.2 k hk).1,(h.2 k hk).2⟩⟩
def Beside (w w':World) (v v':Value):Prop:=∀B u xs,SlN w B u xs->Apart v u->SlN w' B u xs∧Apart v' u
theorem Beside.grow {w w':World} {v v':Value} (hg:w.grownBy w' v.ownBlock) (n:Nat) (hn:w.heap.size<=n) (hat:v'.ownBlock=v.ownBlock∨v'.ownBlock=some n):Beside w w' v v':=by
 intro B u xs hs ha;have hsz:=hg.size;have hap:Apart v' u:=by rcases hat with e|e;(·unfold Apart;rw[e];exact ha);·refine .inr ?_;rw[e];intro h1;have:=(hs.2 n h1.symm).2;omega
 refine⟨⟨?_,fun k hk=>⟨(hs.2 k hk).1,Znc (hs.2 k hk).2 hsz⟩⟩,hap⟩;rcases hs.1 with h|⟨b,off,cap,h1,h2,h3⟩;·exact .inl h
 ·refine .inr ⟨b,off,cap,h1,Znc h2 hsz,fun i hi=> ?_⟩;have hb:w'.heap[b]? =w.heap[b]? :=hg.block b h2 (by rcases ha.symm with e|e;(·rw[h1]at e;simp[Value.ownBlock]at e);·rw[h1]at e;simpa[Value.ownBlock]using e);rw[<-h3 i hi];exact World.cell?_of_block (w:=w) (a:=⟨b,off+i,none⟩) hb
theorem Zd7 (t:TypeId) (n:Nat) (ht:prog.underlying t=some (.array n 9)) (cs:Array Value) (i:Nat) (hi:i<n) (x:Value) (hx:cs[i]? =some x) (w:World):
 (Instr.index t (.agg cs) (.int .i64 (i:Int))).run prog w=.ok x w:=by
 have h2:=Tryz.sizeOf9 w
 simp[Instr.index,Zpo ht,asIntOf,part,hx,h2,go_sem]
 omega
theorem Ext.rowX {a w:World} {b:Nat} {t:TypeId} {n:Nat} {f:Nat->Value} (h:a.rowIs b t n f) (hx:Ext a w):w.rowIs b t n f:=h.of_block (hx.block _ h.lt)
theorem ZG (R:Array Value) (hR:R.size=10) (h1:R.all (·.oneCell')=true) (w:World):
 (storeCells ⟨w.heap.size,0,none⟩ R.toList).run prog (w.alloc (.cells #[.string ⟨#[]⟩,.string ⟨#[]⟩,.string ⟨#[]⟩,.string ⟨#[]⟩,.string ⟨#[]⟩,.string ⟨#[]⟩,.string ⟨#[]⟩,.string ⟨#[]⟩,.string ⟨#[]⟩,.string ⟨#[]⟩] 210))=.ok () (w.alloc (.cells R 210)):=
 run_storeCells_new w 210 _ R (by rw[hR];kernel_rfl) (by rw[hR];rfl) h1
theorem Zk6 (R:Array Value) (t:TypeId) (w:World):(w.alloc (.cells R t)).rowIs w.heap.size t R.size (fun i=>R.getD i undef):=
 ZpS w R t _ (fun i hi=>by simp[hi])
theorem ZC (R:Array Value) (t:TypeId) (w:World) {i:Nat} {x:Value} (h:R[i]? =some x):(w.alloc (.cells R t)).cell? ⟨w.heap.size,i,none⟩=some x:=by
 have hi:i<R.size:=by rcases ZnY i R.size with h'|h';(·exact h');·rw[Zo3 h']at h;cases h
 rw[(Zk6 R t w).cell hi];simp only[ZpA,h];rfl
end
end Go.Proofs.YtbngggoccndefaaGreatDoor
section
namespace Go.Proofs.YtbngggoccndefaaGreatDoor
open Go.Proofs.Tryz
open Go.RowKit
def GB (row:Option Nat) (w w':World):Prop:=w.grownBy w' row
theorem GB.refl {row:Option Nat} (w:World):GB row w w:=⟨rfl,rfl,rfl,ZmK _,fun _ _ _=>rfl⟩
theorem GB.trans {row:Option Nat} {a b c:World} (h:GB row a b) (k:GB row b c):GB row a c:=World.grownBy.trans h k
theorem GB.ext {row:Option Nat} {a b:World} (h:Ext a b):GB row a b:=⟨h.os,h.tape,h.output,h.size,fun i hi _=>h.block i hi⟩
theorem GB.drew {row:Option Nat} {a w:World} (h:GB row a w):GB row a w.drew:=h.trans (GB.ext (Ext.refl w).drew)
theorem GB.size {row:Option Nat} {a w:World} (h:GB row a w):a.heap.size<=w.heap.size:=World.grownBy.size h
theorem GB.heap {row:Option Nat} {a w:World} (h:GB row a w) {b:Nat} {o:Obj} (hb:a.heap[b]? =some o) (hne:row≠some b):w.heap[b]? =some o:=by rw[World.grownBy.block h b (Znn.1 hb).1 (fun e=>hne e.symm)];exact hb
end Go.Proofs.YtbngggoccndefaaGreatDoor
namespace Go.Proofs.YtbngggoccndefaaGreatDoor.RG
open Go.Proofs.Tryz
open Go.RowKit
variable {row:Option Nat}
def relUpon (P:Program) (K:Value->World->Prop):Result Next->Prop
 | .ok (.value v) w'=>K v w'
 | .ok .skip w'=>K undef w'
 | .ok (.enter f args) w'=>Calls P f args w' fun e w''=>∃v,e=.returned v∧K v w''
 |_=>False
def relAt (P:Program) (o:Oper) (a:Act) (w:World) (K:Value->World->Prop):Prop:=relUpon P K ((execOp a.eval o).run P w)
theorem wp_of_relAt {P:Program} {o:Oper} {a:Act} {w:World} {K:Value->World->Prop} {K':Act->World->Prop} {Q:Exit->Act->World->Prop}
 (h:relAt P o a w K) (hk:∀v w',K v w'->K' (a.put o.dst v) w'):o.wp P a w K' Q:=by
 unfold relAt at h
 unfold Oper.wp
 generalize(execOp a.eval o).run P w=r at*
 cases r with
 |ok n w'=>exact QcN
 |halt x w'=>simp only[relUpon]at h
def fillA (V:Nat->Value) (ds:List Nat) (a:Act):Act:=ds.foldl (fun a d=>a.put (some d) (V d)) a
theorem put_self (a:Act) (d:Nat):a.put (some d) (a.tmps.getD d undef)=a:=by
 cases a with
 |mk t df=>exact QcX
theorem put_put (a:Act) (d:Nat) (u v:Value):(a.put (some d) u).put (some d) v=a.put (some d) v:=by unfold Act.put;simp[ZpV]
theorem fillA_self (ds:List Nat):∀a:Act,fillA (fun d=>a.tmps.getD d undef) ds a=a:=Qb2
theorem fillA_miss (V:Nat->Value) (d:Nat) (v:Value):∀(ds:List Nat) (a:Act),d∉ds->(fillA V ds a).put (some d) v=fillA (fun x=>if x=d then v else V x) ds (a.put (some d) v):=by
 intro ds
 induction ds with
 |nil=>intro a _;rfl
 |cons c ds ih=>exact QbF
theorem fillA_hit (V:Nat->Value) (d:Nat) (v:Value):∀(ds:List Nat) (a:Act),ds.Nodup->d∈ds->(fillA V ds a).put (some d) v=fillA (fun x=>if x=d then v else V x) ds a:=by
 intro ds
 induction ds with
 |nil=>intro a _ h;cases h
 |cons c ds ih=>exact Qbq
def hasEdge (ops:Array Oper) (k i:Nat):Bool:=match ops[k]? with
 |some o=>o.after.any fun e=>Region.binds .any e&&e.on==i
 |none=>false
def listedTo (n m:Nat):Array Bool:=(List.replicate m true++List.replicate (n-m) false).toArray
def cnt (n:Nat) (l:Array Bool):Nat:=(List.range n).countP fun i=> !l.getD i true
theorem countP_one {l:List Nat} (hn:l.Nodup) {p q:Nat->Bool} {i:Nat} (hi:i∈l) (hp:p i=true) (hq:q i=false) (h:∀j,j≠i->q j=p j):l.countP q+1=l.countP p:=by
 induction l with
 |nil=>cases hi
 |cons c l ih=>exact QbH
theorem cnt_set {n:Nat} {l:Array Bool} {i:Nat} (hs:l.size=n) (h:l.getD i true=false):cnt n (l.setIfInBounds i true)+1=cnt n l:=Qb5
theorem hasEdge_on {ops:Array Oper} {k i:Nat} {o:Oper} (ho:ops[k]? =some o) (h:hasEdge ops k i=true):∃e∈o.after,Region.binds .any e=true∧e.on=i:=QdM
section
variable {P:Program} {ops:Array Oper} {Q:Exit->Act->World->Prop} {W:World} {a:Act} {m:Nat} {ds:List Nat} {deps:List (List Nat)} {R:Nat->Value->World->Prop}
theorem getD_tf {l:Array Bool} {i:Nat} (h:i<l.size):l.getD i true=l.getD i false:=by simp[h]
end
abbrev Rel:=Value->World->Prop
def eqv (t:Value):Rel:=fun v _=>v=t
def factsOf (acc:List Rel) (k:Nat) (ds:List Nat) (V:Nat->Value) (w:World):List Nat->Prop
 | []=>True
 |j::l=>(acc.getD (k-1-j) fun _ _=>True) (V (ds.getD j 0)) w∧factsOf acc k ds V w l
theorem factsOf_mem {acc:List Rel} {k:Nat} {ds:List Nat} {V:Nat->Value} {w:World} {l:List Nat}:factsOf acc k ds V w l↔∀j∈l,(acc.getD (k-1-j) fun _ _=>True) (V (ds.getD j 0)) w:=by
 induction l with
 |nil=>simp[factsOf]
 |cons j l ih=>simp[factsOf,ih]
theorem fillA_other (V:Nat->Value) (d:Nat):∀(ds:List Nat) (a:Act),ds.contains d=false->(fillA V ds a).tmps.getD d undef=a.tmps.getD d undef:=by
 intro ds
 induction ds with
 |nil=>intro a _;rfl
 |cons c ds ih=>exact Qcd
theorem fillA_here (V:Nat->Value) (d:Nat):∀(ds:List Nat) (a:Act),ds.contains d=true->d<a.tmps.size->(fillA V ds a).tmps.getD d undef=V d:=by
 intro ds
 induction ds with
 |nil=>intro a h;cases h
 |cons c ds ih=>exact QbL
theorem evalHit {A:Act} {V:Nat->Value} {ds:List Nat} {a:Act} (hA:A=fillA V ds a) (d:Nat) (h:(ds.contains d&&decide (d<a.tmps.size))=true):A.eval (.tmp d)=V d:=QeS
theorem evalMiss {A:Act} {V:Nat->Value} {ds:List Nat} {a:Act} (hA:A=fillA V ds a) (d:Nat) (h:ds.contains d=false):A.eval (.tmp d)=a.eval (.tmp d):=by subst hA;exact fillA_other V d ds a h
theorem relAt_ops {P:Program} {o:Oper} {V:Nat->Value} {ds:List Nat} {a:Act} {w:World} {K:Value->World->Prop}
 (h:∀(A:Act) (ρ:Operand->Value),A=fillA V ds a->ρ=A.eval->(∀v,ρ (.const v)=v)->(∀f,ρ (.func f)=.func (.func f) #[] #[])->relUpon P K ((execOp ρ o).run P w)):relAt P o (fillA V ds a) w K:=
 h _ _ rfl rfl (fun _=>rfl) (fun _=>rfl)
theorem relUpon_move {P:Program} {o:Oper} {ρ:Operand->Value} {w:World} {K:Value->World->Prop} {x:Operand} (h:o.op=.move x∨o.op=.assign x:=by first|exact .inl rfl|exact .inr rfl) (hk:K (ρ x) w):relUpon P K ((execOp ρ o).run P w):=QcS
end Go.Proofs.YtbngggoccndefaaGreatDoor.RG
end
namespace Go.Proofs.YtbngggoccndefaaGreatDoor
open Go.Proofs.Tryz
section
namespace Rn
def stretch (k:Nat) (s:List Bool):List Bool:=s.flatMap fun b=>List.replicate k b
theorem stretch_rep (k n:Nat) (b:Bool):stretch k (List.replicate n b)=List.replicate (n*k) b:=by
 induction n with
 |zero=>simp[stretch]
 |succ n ih=>unfold stretch at ih⊢;rw[ZnG,Zoo,ih,List.replicate_append_replicate];congr 1;rw[Nat.add_mul];omega
theorem stretch_app (k:Nat) (a b:List Bool):stretch k (a++b)=stretch k a++stretch k b:=by unfold stretch;rw[ZoF]
theorem stretch_len (k:Nat) (s:List Bool):(stretch k s).length=s.length*k:=by
 induction s with
 |nil=>simp[stretch]
 |cons b s ih=>have:stretch k (b::s)=List.replicate k b++stretch k s:=rfl;rw[this,ZmM,Zns,ih,ZmQ,Nat.add_mul];omega
theorem stretch_mods (k:Nat):∀(l:List Nat) (c:Bool),stretch k (modsN c l)=modsN c (l.map fun n=>n*k)
 | [],c=>rfl
 |x::l,c=>by rw[modsN,stretch_app,stretch_rep,stretch_mods k l (!c),ZnU,modsN]
theorem stretch_is (k:Nat) (hk:1<=k) (s:List Bool) (hc:core s≠ []):Ea.ldg (stretch k s)=Ea.ldg s*k∧Ea.trl (stretch k s)=Ea.trl s*k∧core (stretch k s)=stretch k (core s)∧widthsN (stretch k s)=(widthsN s).map fun n=>n*k:=by
 rcases row_split s with⟨h,_⟩|⟨m,h1,⟨m',h2⟩,h3⟩;·exact absurd h hc
 ·obtain⟨j,rfl⟩:∃j,k=j+1:=⟨k-1,by omega⟩;have e:stretch (j+1) s=List.replicate (Ea.ldg s*(j+1)) false++stretch (j+1) (core s)++List.replicate (Ea.trl s*(j+1)) false:=(by have h4:=Znb (stretch (j+1)) h3;rw[stretch_app,stretch_app,stretch_rep,stretch_rep]at h4;exact h4);obtain⟨p1,p2,p3⟩:=row_parts (Ea.ldg s*(j+1)) (Ea.trl s*(j+1)) (stretch (j+1) (core s)) ⟨List.replicate j true++stretch (j+1) m,by rw[h1];rfl⟩ ⟨stretch (j+1) m'++List.replicate j true,by rw[h2,stretch_app,Znu];congr 1;show List.replicate (j+1) true++[]=_;rw[ZnC,ZoW]⟩;rw[<-e]at p1 p2 p3;refine⟨p1,p2,p3,runs_of _ ?_ _ ?_⟩;(·intro x hx;obtain⟨y,hy,rfl⟩:=Zor.1 hx;have:=widthsN_pos s y hy;exact ZnF this (Nat.le_mul_of_pos_right y QhN));·rw[p3,<-widthsN_mods s,stretch_mods]
theorem widths_stretch (k:Nat) (hk:1<=k) (s:List Bool) (hc:core s≠ []):widths (stretch k s)=(widths s).map fun x=>x*(k:Int):=by unfold widths;rw[(stretch_is k hk s hc).2.2.2,Zos,Zos];refine Zpd fun n _=> ?_;simp
theorem sum_mul (k:Int):∀l:List Int,sum (l.map fun x=>x*k)=sum l*k
 | []=>by rw[ZoU,sum_nil];omega
 |x::l=>by rw[ZnU,sum_cons,sum_cons,sum_mul k l,Int.add_mul]
theorem unit_mul (k:Nat) (hk:1<=k) (ws:List Int) (h:∀x∈ws,1<=x) (h1:unit ws=1):unit (ws.map fun x=>x*(k:Int))=(k:Int):=by
 have hp:∀x∈ws.map (fun x=>x*(k:Int)),1<=x:=by intro x hx;obtain⟨y,hy,rfl⟩:=Zor.1 hx;have:=h y hy;have h2:(1:Int)*1<=y*(k:Int):=Zo2 this QhN QhN QhN;omega
 obtain⟨u,e1,-,e3,e4⟩:=gcdGo_is _ 0 hp;obtain⟨v,f1,-,f3,f4⟩:=gcdGo_is ws 0 h;unfold unit at h1⊢;rw[f1]at h1;rw[e1];have hv:v=1:=by omega
 subst hv;have hku:k∣u:=e4 k (Nat.dvd_zero _) fun x hx=>by obtain⟨y,hy,rfl⟩:=Zor.1 hx;exact Int.dvd_mul_left _ _
 obtain⟨d,rfl⟩:=hku;have hd:d∣1:=f4 d (Nat.dvd_zero _) fun x hx=>by have:=e3 (x*(k:Int)) (Zor.2 ⟨x,hx,rfl⟩);rw[Int.mul_comm x,Int.natCast_mul]at this;exact Int.dvd_of_mul_dvd_mul_left QhN this
 have:d=1:=Nat.dvd_one.1 hd;subst this;simp
theorem modules_widths (s:List Bool) (hc:core s≠ []) (hl:s.length<=65536):modules (widths s)=(core s,0):=by
 have hp:=widths_pos s;have hs:((core s).length:Int)=sum (widths s):=by rw[<-mods_widths s];exact mods_len _ _ hp
 have hcl:=core_le s;have hne:widths s≠ []:=fun e=>hc (by rw[<-mods_widths s,e];rfl);have hodd:(widths s).length%2=1:=by rcases widthsN_odd s with h|h;(·exact absurd h hc);·unfold widths;rw[ZmI];exact h
 have hr:Tw.inRng (widths s)=true:=by
  unfold Tw.inRng;rw[Znd];intro x hx;have h1:=hp x hx;have h2:x<=sum (widths s):=by
   have key:∀l:List Int,(∀y∈l,1<=y)->∀y∈l,y<=sum l:=by
    intro l
    induction l with
    |nil=>intro _ y hy;cases hy
    |cons z l ih=>intro hq y hy;have hz:=hq z (Znh ..);have hs2:=sum_pos l fun a ha=>hq a (Zne _ ha);rw[sum_cons];rcases Zn8.1 hy with rfl|hy;(·omega);·have:=ih (fun a ha=>hq a (Zne _ ha)) y hy;omega
   exact key _ hp x hx
  exact Qcm
 unfold modules;rw[ZmF (by rw[List.length_eq_zero_iff];exact hne),ZmF QhN,hr,ZmF QhP,ZmF QhN,mods_widths]
end Rn
end
end Go.Proofs.YtbngggoccndefaaGreatDoor
section
namespace Go.Proofs.YtbngggoccndefaaGreatDoor.Cd
open Go.Proofs.Tryz
theorem cmp_size (k:Nat) (l:List UInt8) (h1:1<=k) (h8:k<=8):(cmp k l).length=size k:=by
 match k,h1,h8 with
 |1,_,_=>rfl
 |2,_,_=>rfl
 |3,_,_=>rfl
 |4,_,_=>rfl
 |5,_,_=>rfl
 |6,_,_=>rfl
 |7,_,_=>rfl
 |8,_,_=>rfl
theorem ver_zero_iff (k:Nat) (l:List UInt8):ver k l=0↔l.length<=4096∧fits k l.length=true∧(∀c∈l.take (l.length-size k),datB k (c.toNat:Int)=true)∧(∀c∈l.drop (l.length-size k),chkB k (c.toNat:Int)=true)∧cmp k (l.take (l.length-size k))=l.drop (l.length-size k):=by
 unfold ver;rw[<-Znd (p:=fun c:UInt8=>datB k c.toNat),<-Znd (p:=fun c:UInt8=>chkB k c.toNat)];by_cases h1:4096<l.length;·rw[ZmH h1];constructor;(·intro h;omega);·intro h;omega
 rw[ZmF h1];cases h2:fits k l.length;·simp
 rw[ZmF QhQ];cases h3:(l.take (l.length-size k)).all (fun c=>datB k c.toNat);·simp
 rw[ZmF QhQ];cases h4:(l.drop (l.length-size k)).all (fun c=>chkB k c.toNat);·simp
 rw[ZmF QhQ];by_cases h5:cmp k (l.take (l.length-size k))=l.drop (l.length-size k);·rw[ZmH h5];simp[h5];omega
 ·rw[ZmF h5];simp[h5]
theorem verI_nat (n:Nat) (l:List UInt8) (h1:1<=n) (h8:n<=8):verI (n:Int) l=ver n l:=by rw[verI,ZmF QhN,ZnW]
end Go.Proofs.YtbngggoccndefaaGreatDoor.Cd
namespace Go.Proofs.YtbngggoccndefaaGreatDoor.Cd
open Go.Proofs.Tryz
def vx (c:UInt8):Int:=if c=88 then 10 else dg c
theorem vx_dig {c:UInt8} (h:48<=c.toNat∧c.toNat<=57):vx c=dg c:=ZmF (by rintro rfl;revert h;decide)
theorem dg_inj {a b:UInt8} (h:dg a=dg b):a=b:=by unfold dg at h;exact ZnJ.1 QhN
theorem vx_chr (v:Int) (h0:0<=v) (h1:v<=10):vx (chr v)=v:=by
 obtain⟨n,rfl⟩:=Znv h0;have h:∀n:Fin 11,vx (chr (n.1:Int))=(n.1:Int):=by decide
 exact h ⟨n,by omega⟩
theorem dg_chr (v:Int) (h0:0<=v) (h1:v<=9):dg (chr v)=v:=by
 obtain⟨n,rfl⟩:=Znv h0;have h:∀n:Fin 10,dg (chr (n.1:Int))=(n.1:Int):=by decide
 exact h ⟨n,by omega⟩
def gsF:List UInt8->Int×Int
 | []=>(0,1)
 |c::l=>((gsF l).1+(gsF l).2*dg c,4-(gsF l).2)
theorem gsF_w (l:List UInt8):(gsF l).2=if l.length%2=0 then 1 else 3:=by
 induction l with
 |nil=>rfl
 |cons c l ih=>simp only[gsF,ih,ZmQ];split<;>split<;>omega
theorem gsF_snoc (l:List UInt8) (d:UInt8):gsF (l++[d])=((gsP l).1+dg d,(gsP l).2):=by
 induction l with
 |nil=>simp[gsF,gsP]
 |cons c l ih=>simp only[Zny,gsF,ih,gsP];congr 1;omega
theorem allDig_app {a b:List UInt8} (h:AllDig (a++b)):AllDig a∧AllDig b:=⟨fun x hx=>h x (List.mem_append_left _ hx),fun x hx=>h x (List.mem_append_right _ hx)⟩
end Go.Proofs.YtbngggoccndefaaGreatDoor.Cd
namespace Go.Proofs.YtbngggoccndefaaGreatDoor.Cd
open Go.Proofs.Tryz
theorem parts (k:Nat) (s:List UInt8) (h1:1<=k) (h8:k<=8) (h:ver k s=0):∃l,s=l++cmp k l∧(∀c∈l,datB k (c.toNat:Int)=true)∧l≠ []∧(k=3->l.length=9)∧(∀c∈s,chkB k (c.toNat:Int)=true):=by
 obtain⟨_,hf,hd,hc,he⟩:=(ver_zero_iff k s).1 h;have hlt:=fits_lt k s.length hf;refine⟨s.take (s.length-size k),?_,hd,?_,?_,?_⟩;·rw[he];exact(ZnX _ _).symm
 ·intro e;have:(s.take (s.length-size k)).length=0:=(by rw[e];rfl);exact Qf1
 ·rintro rfl;have:=fits_isbn _ hf;rw[ZmY,this];rfl
 ·intro c hcs;rw[<-ZnX (s.length-size k) s]at hcs;rcases ZnR.1 hcs with hc'|hc';(·have:=hd c hc';unfold datB at this;unfold chkB;split;(·simp_all);·split<;>simp_all);·exact hc c hc'
end Go.Proofs.YtbngggoccndefaaGreatDoor.Cd
end
