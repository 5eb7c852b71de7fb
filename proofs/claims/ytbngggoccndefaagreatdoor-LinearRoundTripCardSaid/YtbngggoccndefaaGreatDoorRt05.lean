/-
  Laid.
-/
import Derived.Test.YtbngggoccndefaaGreatDoorRt01
set_option maxHeartbeats 8000000
set_option maxRecDepth 100000
set_option linter.all false
namespace Go.Proofs.YtbngggoccndefaaGreatDoor
open Go.Proofs.Tryz
section
open Go.RowKit
theorem VL (b j:Nat):(⟨b,0,none⟩:Addr).add j=⟨b,j,none⟩:=EQ
theorem XF (b o j:Nat):(⟨b,o,none⟩:Addr).add j=⟨b,o+j,none⟩:=EQ
def Own (t:TypeId) (w:World) (B:Nat) (v:Value) (xs:List Value):Prop:=w.ownsRow B t 1 v xs.length xs
theorem Ext.ofGrown {a w w':World} {row:Option Nat} (h:Ext a w) (hg:w.grownBy w' row) (hr:∀k,row=some k->a.heap.size<=k):Ext a w':=Below.grown h hg h.size hr
theorem Ext.asGrown {w w':World} (h:Ext w w'):w.grownBy w' none:=⟨h.os,h.tape,h.output,h.size,fun i hi _=>h.block i hi⟩
theorem Own.nil (t:TypeId) (w:World) (B:Nat):Own t w B (.slice none 0 0) []:=VM _ _ _ _
section
variable {t:TypeId} {w w':World} {B:Nat} {v:Value} {xs:List Value}
theorem Own.ext (h:Own t w B v xs) (hx:Ext w w'):Own t w' B v xs:=by
 refine T8 h hx.asGrown ?_
 cases hv:v.ownBlock with
 |none=>exact .inl rfl
 |some k=>exact .inr L0
theorem Own.alloc (h:Own t w B v xs) (o:Obj):Own t (w.alloc o) B v xs:=World.ownsRow.alloc h o
theorem Own.drew (h:Own t w B v xs):Own t w.drew B v xs:=h
theorem Own.low (h:Own t w B v xs):∀k,v.ownBlock=some k->B<=k:=fun k hk=>(J4 h k hk).1
theorem Own.mono {B':Nat} (h:Own t w B v xs) (hB:B'<=B):Own t w B' v xs:=ER
theorem Own.kept {row:Option Nat} (h:Own t w B v xs) (hg:w.grownBy w' row) (hne:v.ownBlock=none∨v.ownBlock≠row):Own t w' B v xs:=T8 h hg hne
end
theorem ZW {w:World} {ops:Array Oper} {rest:List Oper} {o:Oper} {a:Act} {Q:Exit->Act->World->Prop} (hgd:o.guard=none) (s x:Operand) (T t:TypeId) (z:Value) (bytes:Nat)
 (ho:o.op=.call {callee:=.builtin .append,args:= #[s,x],argTypes:= #[T,T]})
 (hT:prog.underlying T=some (.slice t)) (hi:(prog.info? t).map (fun i=>(i.zero,i.size,i.bytes))=some (some z,1,bytes)) (hz:z.cells.size=1) (hby:bytes<=16)
 (B:Nat) (v:Value) (xs:List Value) (hs:a.eval s=v) (hown:Own t w B v xs) (b off m c:Nat) (news:List Value) (hx:a.eval x=.slice (some ⟨b,off,none⟩) m c) (hm:news.length=m)
 (hc:∀j u,news[j]? =some u->w.cell? ⟨b,off+j,none⟩=some u) (h1:∀u∈news,u.oneCell'=true) (hn:xs.length+m<=1000000000) (hB:B<=w.heap.size)
 (h:∀v' w',Own t w' B v' (xs++news)->w.grownBy w' v.ownBlock->wpList prog ops Q rest (a.put o.dst v') w'):wpList prog ops Q (o::rest) a w:=by
 obtain⟨i0,hi,hz0,hz1,hz2⟩:=C5 hi
 refine VN _ hgd s x T ho B t i0 z 1 bytes hT hi hz0 hz1 hz2 hz J0 v xs.length xs hs hown ⟨b,off,none⟩ m c news hx (by rw[hm,U8]) ?_ h1 ?_ ?_ hB ?_
 ·intro j u hj;rw[XF];exact hc j u hj
 ·exact F7
 ·exact L3 (VO hn hby) J0
 ·intro v' w' h1 h2 _;refine h v' w' ?_ h2;unfold Own;rw[O0,hm];exact h1
def OwnG (t:TypeId) (w:World) (B:Nat) (v:Value) (xs:List Value):Prop:=
 Own t w B v xs∨∃b,v=.slice (some ⟨b,0,none⟩) xs.length xs.length∧B<=b∧b<w.heap.size∧∀j u,xs[j]? =some u->w.cell? ⟨b,j,none⟩=some u
theorem OwnG.ext {t:TypeId} {w w':World} {B:Nat} {v:Value} {xs:List Value} (h:OwnG t w B v xs) (hx:Ext w w'):OwnG t w' B v xs:=by
 rcases h with h|⟨b,h1,h2,h3,h4⟩;·exact .inl (h.ext hx)
 ·exact .inr ⟨b,h1,h2,M1 h3 hx.size,fun j u hu=>by rw[hx.cell (p:=⟨b,j,none⟩) h3];exact h4 j u hu⟩
theorem OwnG.low {t:TypeId} {w:World} {B:Nat} {v:Value} {xs:List Value} (h:OwnG t w B v xs):∀k,v.ownBlock=some k->B<=k:=by
 rcases h with h|⟨b,rfl,h2,h3,h4⟩;·exact h.low
 ·intro k hk;have:b=k:=(by simpa[Value.ownBlock]using hk);omega
theorem ES {w:World} (T t:TypeId) (z:Value) (bytes:Nat)
 (hT:prog.underlying T=some (.slice t)) (hi:(prog.info? t).map (fun i=>(i.zero,i.size,i.bytes))=some (some z,1,bytes)) (hz:z.cells.size=1) (hby:bytes<=16)
 (B:Nat) (v:Value) (xs:List Value) (hown:OwnG t w B v xs) (b off m c:Nat) (news:List Value) (hm:news.length=m) (hpos:0<m)
 (hc:∀j u,news[j]? =some u->w.cell? ⟨b,off+j,none⟩=some u) (h1:∀u∈news,u.oneCell'=true) (hn:xs.length+m<=1000000000) (hB:B<=w.heap.size):
 ∃v' w',(Builtin.append_ #[T,T] T #[v,.slice (some ⟨b,off,none⟩) m c]).run prog w=.ok v' w'∧Own t w' B v' (xs++news)∧w.grownBy w' v.ownBlock:=by
 obtain⟨i0,hi,hz0,hz1,hz2⟩:=C5 hi
 have hml:xs.length+m<=maxLen:=F7
 have hmb:(xs.length+m)*bytes<=140737488355328:=L3 (VO hn hby) J0
 have hnw:∀j u,news[j]? =some u->w.cell? ((⟨b,off,none⟩:Addr).add j)=some u:=fun j u hj=>by rw[XF];exact hc j u hj
 have hlen:(xs++news).length=xs.length+m:=by rw[O0,hm]
 rcases hown with hown|⟨b',rfl,hb1,hb2,hb3⟩
 ·obtain⟨v',w',h2,h3,h4,_⟩:=run_append_own (P:=prog) w B T T t i0 z 1 bytes hT hi hz0 hz1 hz2 hz J0 v xs.length xs hown ⟨b,off,none⟩ m c news C0 hnw h1 hml hmb hB;refine⟨v',w',h2,?_,h4⟩;unfold Own;rw[hlen];exact h3
 ·obtain⟨v',w',h2,h3,h4⟩:=run_append_arg_grows (P:=prog) w T T t i0 z 1 bytes hT hi hz0 hz1 hz2 hz J0 ⟨b',0,none⟩ xs.length xs.length xs C0 (fun j u hj=>by rw[VL];exact hb3 j u hj) ⟨b,off,none⟩ m c news C0 hnw C0 hml hmb;refine⟨v',w',h2,?_,⟨h4.1,h4.2,h4.3,h4.4,fun i hi _=>h4.5 i hi L0⟩⟩;have h5:Own t w' w.heap.size v' (xs++news):=(by unfold Own;rw[hlen];exact h3);exact h5.mono hB
theorem ET {w:World} {ops:Array Oper} {o:Oper} {a:Act} {K:Act->World->Prop} {Q:Exit->Act->World->Prop} {E:Prop} (hgd:o.guard=none) (s x:Operand) (T:TypeId)
 (ho:o.op=.call {callee:=.builtin .append,args:= #[s,x],argTypes:= #[T,T]}) (ht:o.type=T) (v v1:Value) (hs:a.eval s=v) (hx:a.eval x=v1)
 (v':Value) (w':World) (hrun:(Builtin.append_ #[T,T] T #[v,v1]).run prog w=.ok v' w') (h:K (a.put o.dst v') w'):
 if Region.wanted o (yielded ops a.tmps)=true then Oper.wp prog o a w K Q else E:=by
 have hw:Region.wanted o (yielded ops a.tmps)=true:=by simp[Region.wanted,hgd]
 rw[G0 hw]
 rw[<-ht]at hrun
 unfold Oper.wp execOp
 simp only[ho,<-ht,resolve,invoke,builtin,SG,SH,SI,List.map_toArray,Y4,XC,hs,hx,hrun]
 exact h
def Sl (w:World) (v:Value) (xs:List Value):Prop:=
 (xs=[]∧∃a c,v=.slice a 0 c)∨∃b off cap,v=.slice (some ⟨b,off,none⟩) xs.length cap∧b<w.heap.size∧∀i,i<xs.length->w.cell? ⟨b,off+i,none⟩=xs[i]?
theorem Sl.ext {w w':World} {v:Value} {xs:List Value} (h:Sl w v xs) (hx:Ext w w'):Sl w' v xs:=by
 rcases h with h|⟨b,off,cap,h1,h2,h3⟩;·exact .inl h
 ·exact .inr ⟨b,off,cap,h1,M1 h2 hx.size,fun i hi=>by rw[hx.cell (p:=⟨b,off+i,none⟩) h2];exact h3 i hi⟩
theorem Own.sl {t:TypeId} {w:World} {B:Nat} {v:Value} {xs:List Value} (h:Own t w B v xs):Sl w v xs:=by
 rcases h.2 with⟨hnil,h0⟩|⟨g,cap,cur,hv,hbase,hb,h1,h2,h3,h4⟩;·exact EU
 ·refine .inr ⟨g,0,cap,hv,(F3.1 hb).1,fun i hi=> ?_⟩;have hh:=h;unfold Own at hh;rw[hv]at hh;rw[P3,hh.cellAt i C0]
theorem Sl.form {w:World} {v:Value} {xs:List Value} (h:Sl w v xs):∃a c,v=.slice a xs.length c:=NT
theorem Sl.at_ {w:World} {a:Option Addr} {n c:Nat} {xs:List Value} (h:Sl w (.slice a n c) xs) {k:Nat} (hk:k<xs.length):
 ∃b off,a=some ⟨b,off,none⟩∧b<w.heap.size∧w.cell? ⟨b,off+k,none⟩=some xs[k]:=by
 rcases h with⟨rfl,_⟩|⟨b,off,cap,he,hb,hc⟩
 ·exact absurd hk (YB _)
 ·injection he with h1 h2 h3;exact⟨b,off,h1,hb,by rw[hc k hk,P0 hk]⟩
theorem Sl.row {w:World} {b:Nat} {t:TypeId} {n:Nat} {f:Nat->Value} (h:w.rowIs b t n f):Sl w (.slice (some ⟨b,0,none⟩) n n) ((List.range n).map f):=by refine .inr ⟨b,0,n,by simp,h.lt,fun i hi=> ?_⟩;simp only[N0,G7]at hi;rw[P3,h.cell hi];simp[hi]
theorem OwnG.sl {t:TypeId} {w:World} {B:Nat} {v:Value} {xs:List Value} (h:OwnG t w B v xs):Sl w v xs:=by
 rcases h with h|⟨b,rfl,h2,h3,h4⟩;·exact h.sl
 ·exact .inr ⟨b,0,_,rfl,h3,fun i hi=>by rw[P3,h4 i _ (P0 hi),P0 hi]⟩
theorem Sl.congr {w:World} {v:Value} {xs ys:List Value} (h:Sl w v xs) (e:xs=ys):Sl w v ys:=e▸h
def encB (c:UInt8):Value:=.int .u8 (c.toNat:Int)
def encI (n:Int):Value:=.int .i64 n
def encT (b:Bool):Value:=.bool b
theorem Zn {w:World} {v:Value} {l:List UInt8} (h:Sl w v (l.map encB)):
 (convert 90 9 v).run prog w=.ok (.string ⟨l.toArray⟩) w:=by
 rcases h with⟨h0,a,c,rfl⟩|⟨b,off,cap,rfl,hb,hc⟩
 ·have h0:l=[]:=by simpa using h0
  subst h0
  cases a with
  |none=>exact run_convert_bytes_nil (P:=prog) w 90 5 underlying90 underlying5 0 c 9 underlying9
  |some a=>exact run_convert_bytes_back (P:=prog) w 90 9 5 a c [] underlying90 underlying5 underlying9 (fun j hj=>absurd hj (YB _))
 ·have:=run_convert_bytes_back (P:=prog) w 90 9 5 ⟨b,off,none⟩ cap l underlying90 underlying5 underlying9 (fun j hj=>by rw[XF,hc j (by simpa using hj)];simp[hj,encB]);rw[N0];exact R2
theorem NU {w:World} {ops:Array Oper} {rest:List Oper} {o:Oper} {a:Act} {Q:Exit->Act->World->Prop} (hgd:o.guard=none) (s x:Operand) (T t:TypeId) (z:Value) (bytes:Nat)
 (ho:o.op=.call {callee:=.builtin .append,args:= #[s,x],argTypes:= #[T,T]})
 (hT:prog.underlying T=some (.slice t)) (hi:(prog.info? t).map (fun i=>(i.zero,i.size,i.bytes))=some (some z,1,bytes)) (hz:z.cells.size=1) (hby:bytes<=16)
 (B:Nat) (v:Value) (xs:List Value) (hs:a.eval s=v) (hown:Own t w B v xs) (b:Nat) (u:Value) (hx:a.eval x=.slice (some ⟨b,0,none⟩) 1 1)
 (hc:w.cell? ⟨b,0,none⟩=some u) (h1:u.oneCell'=true) (hn:xs.length<=999999999) (hB:B<=w.heap.size)
 (h:∀v' w',Own t w' B v' (xs++[u])->w.grownBy w' v.ownBlock->wpList prog ops Q rest (a.put o.dst v') w'):wpList prog ops Q (o::rest) a w:=by
 refine ZW hgd s x T t z bytes ho hT hi hz hby B v xs hs hown b 0 1 1 [u] hx rfl ?_ ?_ C0 hB h
 ·intro j u' hj
  cases j with
  |zero=>simp only[E3,A2]at hj;subst hj;exact hc
  |succ j=>simp at hj
 ·intro u' hu;simp only[Y2]at hu;subst hu;exact h1
theorem XG:(prog.info? 5).map (fun i=>(i.zero,i.size,i.bytes))=some (some (.int .u8 0),1,1):=Y0
theorem gI {w:World} {ops:Array Oper} {rest:List Oper} {o:Oper} {a:Act} {Q:Exit->Act->World->Prop} (hgd:o.guard=none) (s x:Operand)
 (ho:o.op=.call {callee:=.builtin .append,args:= #[s,x],argTypes:= #[90,90]})
 (B:Nat) (v:Value) (l:List UInt8) (hs:a.eval s=v) (hown:Own 5 w B v (l.map encB)) (b:Nat) (u:UInt8) (hx:a.eval x=.slice (some ⟨b,0,none⟩) 1 1)
 (hc:w.cell? ⟨b,0,none⟩=some (encB u)) (hn:l.length<=999999999) (hB:B<=w.heap.size)
 (h:∀v' w',Own 5 w' B v' ((l++[u]).map encB)->w.grownBy w' v.ownBlock->wpList prog ops Q rest (a.put o.dst v') w'):wpList prog ops Q (o::rest) a w:=
 NU hgd s x 90 5 (.int .u8 0) 1 ho underlying90 XG rfl J0 B v _ hs hown b (encB u) hx hc rfl NV hB
  (fun v' w' h1 h2=>h v' w' XH h2)
theorem XI:(prog.info? 3).map (fun i=>(i.zero,i.size,i.bytes))=some (some (.int .i64 0),1,8):=Y0
theorem Z1 {w:World} {ops:Array Oper} {rest:List Oper} {o:Oper} {a:Act} {Q:Exit->Act->World->Prop} (hgd:o.guard=none) (s x:Operand)
 (ho:o.op=.call {callee:=.builtin .append,args:= #[s,x],argTypes:= #[43,43]})
 (B:Nat) (v:Value) (l:List Int) (hs:a.eval s=v) (hown:Own 3 w B v (l.map encI)) (b:Nat) (u:Int) (hx:a.eval x=.slice (some ⟨b,0,none⟩) 1 1)
 (hc:w.cell? ⟨b,0,none⟩=some (encI u)) (hn:l.length<=999999999) (hB:B<=w.heap.size)
 (h:∀v' w',Own 3 w' B v' ((l++[u]).map encI)->w.grownBy w' v.ownBlock->wpList prog ops Q rest (a.put o.dst v') w'):wpList prog ops Q (o::rest) a w:=
 NU hgd s x 43 3 (.int .i64 0) 8 ho underlying43 XI rfl J0 B v _ hs hown b (encI u) hx hc rfl NV hB
  (fun v' w' h1 h2=>h v' w' XH h2)
theorem SJ:(prog.info? 4).map (fun i=>(i.zero,i.size,i.bytes))=some (some (.bool false),1,1):=Y0
theorem gJ {w:World} {ops:Array Oper} {rest:List Oper} {o:Oper} {a:Act} {Q:Exit->Act->World->Prop} (hgd:o.guard=none) (s x:Operand)
 (ho:o.op=.call {callee:=.builtin .append,args:= #[s,x],argTypes:= #[26,26]})
 (B:Nat) (v:Value) (l:List Bool) (hs:a.eval s=v) (hown:Own 4 w B v (l.map encT)) (b:Nat) (u:Bool) (hx:a.eval x=.slice (some ⟨b,0,none⟩) 1 1)
 (hc:w.cell? ⟨b,0,none⟩=some (encT u)) (hn:l.length<=999999999) (hB:B<=w.heap.size)
 (h:∀v' w',Own 4 w' B v' ((l++[u]).map encT)->w.grownBy w' v.ownBlock->wpList prog ops Q rest (a.put o.dst v') w'):wpList prog ops Q (o::rest) a w:=
 NU hgd s x 26 4 (.bool false) 1 ho underlying26 SJ rfl J0 B v _ hs hown b (encT u) hx hc rfl NV hB
  (fun v' w' h1 h2=>h v' w' XH h2)
def encS (l:List UInt8):Value:=.string ⟨l.toArray⟩
theorem gK:(prog.info? 9).map (fun i=>(i.zero,i.size,i.bytes))=some (some (.string ⟨#[]⟩),1,16):=Y0
theorem SK {w:World} {ops:Array Oper} {rest:List Oper} {o:Oper} {a:Act} {Q:Exit->Act->World->Prop} (hgd:o.guard=none) (s x:Operand) (T t:TypeId) (z:Value) (bytes:Nat)
 (ho:o.op=.call {callee:=.builtin .append,args:= #[s,x],argTypes:= #[T,T]})
 (hT:prog.underlying T=some (.slice t)) (hi:(prog.info? t).map (fun i=>(i.zero,i.size,i.bytes))=some (some z,1,bytes)) (hz:z.cells.size=1) (hby:bytes<=16)
 (B:Nat) (v:Value) (xs:List Value) (hs:a.eval s=v) (hown:Own t w B v xs) (b off m c:Nat) (news:List Value) (hx:a.eval x=.slice (some ⟨b,off,none⟩) m c) (hm:news.length=m)
 (hc:∀j u,news[j]? =some u->w.cell? ⟨b,off+j,none⟩=some u) (h1:∀u∈news,u.oneCell'=true) (hn:xs.length+m<=1000000000) (hB:B<=w.heap.size)
 (h:∀v' w',Own t w' B v' (xs++news)->w.grownBy w' v.ownBlock->(v'.ownBlock=v.ownBlock∨v'.ownBlock=some w.heap.size)->wpList prog ops Q rest (a.put o.dst v') w'):wpList prog ops Q (o::rest) a w:=by
 obtain⟨i0,hi,hz0,hz1,hz2⟩:=C5 hi
 refine wpList_append_own_at _ hgd s x T ho B t i0 z 1 bytes hT hi hz0 hz1 hz2 hz J0 v xs.length xs hs hown ⟨b,off,none⟩ m c news hx (by rw[hm,U8]) ?_ h1 ?_ ?_ hB ?_
 ·intro j u hj;rw[XF];exact hc j u hj
 ·exact F7
 ·exact L3 (VO hn hby) J0
 ·intro v' w' h1 h2 _ h4;refine h v' w' ?_ h2 h4;unfold Own;rw[O0,hm];exact h1
theorem EV {w:World} {ops:Array Oper} {rest:List Oper} {o:Oper} {a:Act} {Q:Exit->Act->World->Prop} (hgd:o.guard=none) (s x:Operand)
 (ho:o.op=.call {callee:=.builtin .append,args:= #[s,x],argTypes:= #[90,90]})
 (B:Nat) (v:Value) (l:List UInt8) (hs:a.eval s=v) (hown:Own 5 w B v (l.map encB)) (b:Nat) (u:UInt8) (hx:a.eval x=.slice (some ⟨b,0,none⟩) 1 1)
 (hc:w.cell? ⟨b,0,none⟩=some (encB u)) (hn:l.length<=999999999) (hB:B<=w.heap.size)
 (h:∀v' w',Own 5 w' B v' (l.map encB++[encB u])->w.grownBy w' v.ownBlock->(v'.ownBlock=v.ownBlock∨v'.ownBlock=some w.heap.size)->wpList prog ops Q rest (a.put o.dst v') w'):wpList prog ops Q (o::rest) a w:=
 SK hgd s x 90 5 (.int .u8 0) 1 ho underlying90 XG rfl J0 B v _ hs hown b 0 1 1 [encB u] hx rfl
  (fun j u' hj=>by
   match j with
   |0=>simp only[E3,A2]at hj;subst hj;exact hc
   |j+1=>simp at hj)
  (fun u' hu=>by simp only[Y2]at hu;subst hu;rfl) D5 hB h
theorem gL {w:World} {ops:Array Oper} {rest:List Oper} {o:Oper} {a:Act} {Q:Exit->Act->World->Prop} (hgd:o.guard=none) (s x:Operand)
 (ho:o.op=.call {callee:=.builtin .append,args:= #[s,x],argTypes:= #[90,90]})
 (B:Nat) (v:Value) (l:List UInt8) (hs:a.eval s=v) (hown:Own 5 w B v (l.map encB)) (b:Nat) (u u1:UInt8) (hx:a.eval x=.slice (some ⟨b,0,none⟩) 2 2)
 (hc:w.cell? ⟨b,0,none⟩=some (encB u)) (hc1:w.cell? ⟨b,1,none⟩=some (encB u1)) (hn:l.length<=999999998) (hB:B<=w.heap.size)
 (h:∀v' w',Own 5 w' B v' (l.map encB++[encB u,encB u1])->w.grownBy w' v.ownBlock->(v'.ownBlock=v.ownBlock∨v'.ownBlock=some w.heap.size)->wpList prog ops Q rest (a.put o.dst v') w'):wpList prog ops Q (o::rest) a w:=
 SK hgd s x 90 5 (.int .u8 0) 1 ho underlying90 XG rfl J0 B v _ hs hown b 0 2 2 [encB u,encB u1] hx rfl
  (fun j u' hj=>by
   match j with
   |0=>simp only[E3,A2]at hj;subst hj;exact hc
   |1=>simp only[R3,E3,A2]at hj;subst hj;exact hc1
   |j+2=>simp at hj)
  (fun u' hu=>by simp only[U1,L4,M4]at hu;rcases hu with rfl|rfl<;>rfl) D5 hB h
def ZN (v u:Value):Prop:=v.ownBlock=none∨v.ownBlock≠u.ownBlock
theorem ZN.nil_left (u:Value):ZN (.slice none 0 0) u:=.inl rfl
theorem ZN.symm {v u:Value} (h:ZN v u):ZN u v:=by
 cases hv:u.ownBlock with
 |none=>exact .inl hv
 |some k=>rcases h with h|h;(·exact .inr (by rw[h,hv];simp));·exact .inr (by rw[hv];rw[hv]at h;exact fun e=>h e.symm)
theorem ZN.grow {t:TypeId} {w:World} {B:Nat} {v v' u:Value} {xs:List Value} (h:ZN v u) (hu:Own t w B u xs) (n:Nat) (hn:w.heap.size<=n) (hat:v'.ownBlock=v.ownBlock∨v'.ownBlock=some n):ZN v' u:=by
 rcases hat with e|e;·unfold ZN;rw[e];exact h
 ·refine .inr ?_;rw[e];intro h1;have:=(J4 hu n h1.symm).2;omega
theorem Own.beside {t:TypeId} {w w':World} {B:Nat} {v u:Value} {xs:List Value} (h:Own t w B u xs) (hg:w.grownBy w' v.ownBlock) (ha:ZN v u):Own t w' B u xs:=by
 refine h.kept hg ?_;rcases ha.symm with e|e;·exact .inl e
 ·exact .inr e
section
variable {α:Type} {enc:α->List Value} {k:Nat}
def ZK (enc:α->List Value) (xs:List α):List Value:=xs.flatMap enc
theorem gM (hk:∀x,(enc x).length=k) (xs:List α):(ZK enc xs).length=xs.length*k:=by
 induction xs with
 |nil=>simp[ZK]
 |cons x xs ih=>have:ZK enc (x::xs)=enc x++ZK enc xs:=rfl;rw[this,O0,ih,hk,S0,V8,VP,Nat.add_comm]
theorem gN (xs ys:List α):ZK enc (xs++ys)=ZK enc xs++ZK enc ys:=by simp[ZK]
theorem gO (hk:∀x,(enc x).length=k) (xs:List α):∀(i:Nat) (x:α),xs[i]? =some x->∀c,c<k->(ZK enc xs)[i*k+c]? =(enc x)[c]? :=by
 induction xs with
 |nil=>intro i x h;simp at h
 |cons y ys ih=>
  intro i x h c hc
  have e:ZK enc (y::ys)=enc y++ZK enc ys:=rfl
  cases i with
  |zero=>simp only[E3,A2]at h;subst h;rw[e,SL,P3,YA (by rw[hk];exact hc)]
  |succ i=>rw[R3]at h;have h2:(i+1)*k+c=(enc y).length+(i*k+c):=(by rw[hk,V8,VP];omega);rw[e,h2,XE (Nat.le_add_right _ _),SN];exact ih i x h c hc
theorem gP (h1:∀x,∀u∈enc x,u.oneCell'=true) (xs:List α):∀u∈ZK enc xs,u.oneCell'=true:=by intro u hu;obtain⟨x,_,h⟩:=List.mem_flatMap.1 hu;exact h1 x u h
def KOwn (T:TypeId) (k:Nat) (enc:α->List Value) (w:World) (B:Nat) (v:Value) (xs:List α):Prop:=w.ownsRow B T k v xs.length (ZK enc xs)
variable {T:TypeId} {w w':World} {B:Nat} {v:Value} {xs:List α}
theorem KOwn.nil (T:TypeId) (k:Nat) (enc:α->List Value) (w:World) (B:Nat):KOwn T k enc w B (.slice none 0 0) []:=VM _ _ _ _
theorem KOwn.ext (h:KOwn T k enc w B v xs) (hx:Ext w w'):KOwn T k enc w' B v xs:=by
 refine T8 h hx.asGrown ?_
 cases hv:v.ownBlock with
 |none=>exact .inl rfl
 |some k=>exact .inr L0
theorem KOwn.low (h:KOwn T k enc w B v xs):∀b,v.ownBlock=some b->B<=b:=fun b hb=>(J4 h b hb).1
theorem KOwn.mono {B':Nat} (h:KOwn T k enc w B v xs) (hB:B'<=B):KOwn T k enc w B' v xs:=ER
theorem KOwn.congr {ys:List α} (h:KOwn T k enc w B v xs) (e:xs=ys):KOwn T k enc w B v ys:=e▸h
def KSl (k:Nat) (enc:α->List Value) (w:World) (v:Value) (xs:List α):Prop:=
 (xs=[]∧∃a c,v=.slice a 0 c)∨∃b off cap,v=.slice (some ⟨b,off,none⟩) xs.length cap∧b<w.heap.size∧∀i x,xs[i]? =some x->∀c,c<k->w.cell? ⟨b,off+i*k+c,none⟩=(enc x)[c]?
theorem KOwn.form (h:KOwn T k enc w B v xs):(xs=[]∧v=.slice none 0 0)∨∃g cap,v=.slice (some ⟨g,0,none⟩) xs.length cap∧B<=g∧g<w.heap.size:=by
 rcases h.2 with⟨hnil,h0⟩|⟨g,cap,cur,hv,hbase,hb,_⟩;·exact .inl ⟨V2 h0,hnil⟩
 ·exact .inr ⟨g,cap,hv,hbase,(F3.1 hb).1⟩
theorem KOwn.sl (hk:∀x,(enc x).length=k) (h:KOwn T k enc w B v xs):KSl k enc w v xs:=by
 rcases h.form with⟨h0,h1⟩|⟨g,cap,hv,_,hg⟩;·exact .inl ⟨h0,_,_,h1⟩
 ·refine .inr ⟨g,0,cap,hv,hg,fun i x hi c hc=> ?_⟩;have hh:=h;unfold KOwn at hh;rw[hv]at hh;have hil:i<xs.length:=EW;have hle:(i+1)*k<=xs.length*k:=VQ k hil;rw[P3,hh.cellAt (i*k+c) (by rw[V8,VP]at hle;omega)];exact gO hk xs i x hi c hc
theorem KSl.form (h:KSl k enc w v xs):∃a c,v=.slice a xs.length c:=NT
theorem KSl.at_ {a:Option Addr} {n cp:Nat} (h:KSl k enc w (.slice a n cp) xs) {i:Nat} {x:α} (hi:xs[i]? =some x):
 ∃b off,a=some ⟨b,off,none⟩∧b<w.heap.size∧∀c,c<k->w.cell? ⟨b,off+i*k+c,none⟩=(enc x)[c]? :=by
 rcases h with⟨rfl,_⟩|⟨b,off,cap,he,hb,hc⟩
 ·simp at hi
 ·injection he with h1 h2 h3;exact⟨b,off,h1,hb,hc i x hi⟩
end
end
end Go.Proofs.YtbngggoccndefaaGreatDoor
