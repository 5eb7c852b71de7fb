/-
  Laid.
-/
import Derived.Test.YtbngggoccndefaaGreatDoorUn01
set_option maxHeartbeats 16000000
set_option maxRecDepth 100000
set_option linter.all false
namespace Go.Proofs.YtbngggoccndefaaGreatDoor
open Go.Proofs.Tryz
section
open Go.RowKit
theorem VF (b j:Nat):(⟨b,0,none⟩:Addr).add j=⟨b,j,none⟩:=zM
theorem U7 (b o j:Nat):(⟨b,o,none⟩:Addr).add j=⟨b,o+j,none⟩:=zM
def Own (t:TypeId) (w:World) (B:Nat) (v:Value) (xs:List Value):Prop:=w.ownsRow B t 1 v xs.length xs
theorem Ext.ofGrown {a w w':World} {row:Option Nat} (h:Ext a w) (hg:w.grownBy w' row) (hr:∀k,row=some k->a.heap.size<=k):Ext a w':=Below.grown h hg h.size hr
theorem Ext.asGrown {w w':World} (h:Ext w w'):w.grownBy w' none:=⟨h.os,h.tape,h.output,h.size,fun i hi _=>h.block i hi⟩
theorem Own.nil (t:TypeId) (w:World) (B:Nat):Own t w B (.slice none 0 0) []:=OF _ _ _ _
section
variable {t:TypeId} {w w':World} {B:Nat} {v:Value} {xs:List Value}
theorem Own.ext (h:Own t w B v xs) (hx:Ext w w'):Own t w' B v xs:=by
 refine XI h hx.asGrown ?_
 cases hv:v.ownBlock with
 |none=>exact .inl rfl
 |some k=>exact .inr L0
theorem Own.alloc (h:Own t w B v xs) (o:Obj):Own t (w.alloc o) B v xs:=World.ownsRow.alloc h o
theorem Own.drew (h:Own t w B v xs):Own t w.drew B v xs:=h
theorem Own.low (h:Own t w B v xs):∀k,v.ownBlock=some k->B<=k:=fun k hk=>(U5 h k hk).1
theorem Own.mono {B':Nat} (h:Own t w B v xs) (hB:B'<=B):Own t w B' v xs:=by
 obtain⟨h1,h2⟩:=h;refine⟨h1,?_⟩;rcases h2 with h2|⟨g,cap,cur,h3,h4,h5⟩;·exact .inl h2
 ·exact .inr ⟨g,cap,cur,h3,B4 hB h4,h5⟩
theorem Own.kept {row:Option Nat} (h:Own t w B v xs) (hg:w.grownBy w' row) (hne:v.ownBlock=none∨v.ownBlock≠row):Own t w' B v xs:=XI h hg hne
end
theorem OG {w:World} {ops:Array Oper} {rest:List Oper} {o:Oper} {a:Act} {Q:Exit->Act->World->Prop} (hgd:o.guard=none) (s x:Operand) (T t:TypeId) (z:Value) (bytes:Nat)
 (ho:o.op=.call {callee:=.builtin .append,args:= #[s,x],argTypes:= #[T,T]})
 (hT:prog.underlying T=some (.slice t)) (hi:(prog.info? t).map (fun i=>(i.zero,i.size,i.bytes))=some (some z,1,bytes)) (hz:z.cells.size=1) (hby:bytes<=16)
 (B:Nat) (v:Value) (xs:List Value) (hs:a.eval s=v) (hown:Own t w B v xs) (b off m c:Nat) (news:List Value) (hx:a.eval x=.slice (some ⟨b,off,none⟩) m c) (hm:news.length=m)
 (hc:∀j u,news[j]? =some u->w.cell? ⟨b,off+j,none⟩=some u) (h1:∀u∈news,u.oneCell'=true) (hn:xs.length+m<=1000000000) (hB:B<=w.heap.size)
 (h:∀v' w',Own t w' B v' (xs++news)->w.grownBy w' v.ownBlock->wpList prog ops Q rest (a.put o.dst v') w'):wpList prog ops Q (o::rest) a w:=by
 obtain⟨i0,hi,hz0,hz1,hz2⟩:=V5 hi
 refine VG _ hgd s x T ho B t i0 z 1 bytes hT hi hz0 hz1 hz2 hz I0 v xs.length xs hs hown ⟨b,off,none⟩ m c news hx (by rw[hm,A9]) ?_ h1 ?_ ?_ hB ?_
 ·intro j u hj;rw[U7];exact hc j u hj
 ·exact V7
 ·exact B4 (VH hn hby) I0
 ·intro v' w' h1 h2 _;refine h v' w' ?_ h2;unfold Own;rw[T0,hm];exact h1
def OwnG (t:TypeId) (w:World) (B:Nat) (v:Value) (xs:List Value):Prop:=
 Own t w B v xs∨∃b,v=.slice (some ⟨b,0,none⟩) xs.length xs.length∧B<=b∧b<w.heap.size∧∀j u,xs[j]? =some u->w.cell? ⟨b,j,none⟩=some u
theorem OwnG.ext {t:TypeId} {w w':World} {B:Nat} {v:Value} {xs:List Value} (h:OwnG t w B v xs) (hx:Ext w w'):OwnG t w' B v xs:=by
 rcases h with h|⟨b,h1,h2,h3,h4⟩;·exact .inl (h.ext hx)
 ·exact .inr ⟨b,h1,h2,G2 h3 hx.size,fun j u hu=>by rw[hx.cell (p:=⟨b,j,none⟩) h3];exact h4 j u hu⟩
theorem OwnG.low {t:TypeId} {w:World} {B:Nat} {v:Value} {xs:List Value} (h:OwnG t w B v xs):∀k,v.ownBlock=some k->B<=k:=by
 rcases h with h|⟨b,rfl,h2,h3,h4⟩;·exact h.low
 ·intro k hk;have:b=k:=(by simpa[Value.ownBlock]using hk);omega
theorem zN {w:World} (T t:TypeId) (z:Value) (bytes:Nat)
 (hT:prog.underlying T=some (.slice t)) (hi:(prog.info? t).map (fun i=>(i.zero,i.size,i.bytes))=some (some z,1,bytes)) (hz:z.cells.size=1) (hby:bytes<=16)
 (B:Nat) (v:Value) (xs:List Value) (hown:OwnG t w B v xs) (b off m c:Nat) (news:List Value) (hm:news.length=m) (hpos:0<m)
 (hc:∀j u,news[j]? =some u->w.cell? ⟨b,off+j,none⟩=some u) (h1:∀u∈news,u.oneCell'=true) (hn:xs.length+m<=1000000000) (hB:B<=w.heap.size):
 ∃v' w',(Builtin.append_ #[T,T] T #[v,.slice (some ⟨b,off,none⟩) m c]).run prog w=.ok v' w'∧Own t w' B v' (xs++news)∧w.grownBy w' v.ownBlock:=by
 obtain⟨i0,hi,hz0,hz1,hz2⟩:=V5 hi
 have hml:xs.length+m<=maxLen:=V7
 have hmb:(xs.length+m)*bytes<=140737488355328:=B4 (VH hn hby) I0
 have hnw:∀j u,news[j]? =some u->w.cell? ((⟨b,off,none⟩:Addr).add j)=some u:=fun j u hj=>by rw[U7];exact hc j u hj
 have hlen:(xs++news).length=xs.length+m:=by rw[T0,hm]
 rcases hown with hown|⟨b',rfl,hb1,hb2,hb3⟩
 ·obtain⟨v',w',h2,h3,h4,_⟩:=run_append_own (P:=prog) w B T T t i0 z 1 bytes hT hi hz0 hz1 hz2 hz I0 v xs.length xs hown ⟨b,off,none⟩ m c news B0 hnw h1 hml hmb hB;refine⟨v',w',h2,?_,h4⟩;unfold Own;rw[hlen];exact h3
 ·obtain⟨v',w',h2,h3,h4⟩:=run_append_arg_grows (P:=prog) w T T t i0 z 1 bytes hT hi hz0 hz1 hz2 hz I0 ⟨b',0,none⟩ xs.length xs.length xs B0 (fun j u hj=>by rw[VF];exact hb3 j u hj) ⟨b,off,none⟩ m c news B0 hnw B0 hml hmb;refine⟨v',w',h2,?_,⟨h4.1,h4.2,h4.3,h4.4,fun i hi _=>h4.5 i hi L0⟩⟩;have h5:Own t w' w.heap.size v' (xs++news):=(by unfold Own;rw[hlen];exact h3);exact h5.mono hB
theorem zO {w:World} {ops:Array Oper} {o:Oper} {a:Act} {K:Act->World->Prop} {Q:Exit->Act->World->Prop} {E:Prop} (hgd:o.guard=none) (s x:Operand) (T:TypeId)
 (ho:o.op=.call {callee:=.builtin .append,args:= #[s,x],argTypes:= #[T,T]}) (ht:o.type=T) (v v1:Value) (hs:a.eval s=v) (hx:a.eval x=v1)
 (v':Value) (w':World) (hrun:(Builtin.append_ #[T,T] T #[v,v1]).run prog w=.ok v' w') (h:K (a.put o.dst v') w'):
 if Region.wanted o (yielded ops a.tmps)=true then Oper.wp prog o a w K Q else E:=by
 have hw:Region.wanted o (yielded ops a.tmps)=true:=by simp[Region.wanted,hgd]
 rw[D0 hw]
 rw[<-ht]at hrun
 unfold Oper.wp execOp
 simp only[ho,<-ht,resolve,invoke,builtin,OH,SE,SF,List.map_toArray,I5,B9,hs,hx,hrun]
 exact h
def Sl (w:World) (v:Value) (xs:List Value):Prop:=
 (xs=[]∧∃a c,v=.slice a 0 c)∨∃b off cap,v=.slice (some ⟨b,off,none⟩) xs.length cap∧b<w.heap.size∧∀i,i<xs.length->w.cell? ⟨b,off+i,none⟩=xs[i]?
theorem Sl.ext {w w':World} {v:Value} {xs:List Value} (h:Sl w v xs) (hx:Ext w w'):Sl w' v xs:=by
 rcases h with h|⟨b,off,cap,h1,h2,h3⟩;·exact .inl h
 ·exact .inr ⟨b,off,cap,h1,G2 h2 hx.size,fun i hi=>by rw[hx.cell (p:=⟨b,off+i,none⟩) h2];exact h3 i hi⟩
theorem Own.sl {t:TypeId} {w:World} {B:Nat} {v:Value} {xs:List Value} (h:Own t w B v xs):Sl w v xs:=by
 rcases h.2 with⟨hnil,h0⟩|⟨g,cap,cur,hv,hbase,hb,h1,h2,h3,h4⟩;·exact zP
 ·refine .inr ⟨g,0,cap,hv,(O3.1 hb).1,fun i hi=> ?_⟩;have hh:=h;unfold Own at hh;rw[hv]at hh;rw[T4,hh.cellAt i B0]
theorem Sl.form {w:World} {v:Value} {xs:List Value} (h:Sl w v xs):∃a c,v=.slice a xs.length c:=zQ
theorem Sl.at_ {w:World} {a:Option Addr} {n c:Nat} {xs:List Value} (h:Sl w (.slice a n c) xs) {k:Nat} (hk:k<xs.length):
 ∃b off,a=some ⟨b,off,none⟩∧b<w.heap.size∧w.cell? ⟨b,off+k,none⟩=some xs[k]:=by
 rcases h with⟨rfl,_⟩|⟨b,off,cap,he,hb,hc⟩
 ·exact absurd hk (W7 _)
 ·injection he with h1 h2 h3;exact⟨b,off,h1,hb,by rw[hc k hk,M0 hk]⟩
theorem Sl.row {w:World} {b:Nat} {t:TypeId} {n:Nat} {f:Nat->Value} (h:w.rowIs b t n f):Sl w (.slice (some ⟨b,0,none⟩) n n) ((List.range n).map f):=by refine .inr ⟨b,0,n,by simp,h.lt,fun i hi=> ?_⟩;simp only[J0,O6]at hi;rw[T4,h.cell hi];simp[hi]
theorem OwnG.sl {t:TypeId} {w:World} {B:Nat} {v:Value} {xs:List Value} (h:OwnG t w B v xs):Sl w v xs:=by
 rcases h with h|⟨b,rfl,h2,h3,h4⟩;·exact h.sl
 ·exact .inr ⟨b,0,_,rfl,h3,fun i hi=>by rw[T4,h4 i _ (M0 hi),M0 hi]⟩
theorem Sl.congr {w:World} {v:Value} {xs ys:List Value} (h:Sl w v xs) (e:xs=ys):Sl w v ys:=e▸h
def encB (c:UInt8):Value:=.int .u8 (c.toNat:Int)
def encI (n:Int):Value:=.int .i64 n
def encT (b:Bool):Value:=.bool b
theorem Zr {w:World} {v:Value} {l:List UInt8} (h:Sl w v (l.map encB)):
 (convert 90 9 v).run prog w=.ok (.string ⟨l.toArray⟩) w:=by
 rcases h with⟨h0,a,c,rfl⟩|⟨b,off,cap,rfl,hb,hc⟩
 ·have h0:l=[]:=by simpa using h0
  subst h0
  cases a with
  |none=>exact run_convert_bytes_nil (P:=prog) w 90 5 underlying90 underlying5 0 c 9 underlying9
  |some a=>exact run_convert_bytes_back (P:=prog) w 90 9 5 a c [] underlying90 underlying5 underlying9 (fun j hj=>absurd hj (W7 _))
 ·have:=run_convert_bytes_back (P:=prog) w 90 9 5 ⟨b,off,none⟩ cap l underlying90 underlying5 underlying9 (fun j hj=>by rw[U7,hc j (by simpa using hj)];simp[hj,encB]);rw[J0];exact F3
theorem GA {w:World} {ops:Array Oper} {rest:List Oper} {o:Oper} {a:Act} {Q:Exit->Act->World->Prop} (hgd:o.guard=none) (s x:Operand) (T t:TypeId) (z:Value) (bytes:Nat)
 (ho:o.op=.call {callee:=.builtin .append,args:= #[s,x],argTypes:= #[T,T]})
 (hT:prog.underlying T=some (.slice t)) (hi:(prog.info? t).map (fun i=>(i.zero,i.size,i.bytes))=some (some z,1,bytes)) (hz:z.cells.size=1) (hby:bytes<=16)
 (B:Nat) (v:Value) (xs:List Value) (hs:a.eval s=v) (hown:Own t w B v xs) (b:Nat) (u:Value) (hx:a.eval x=.slice (some ⟨b,0,none⟩) 1 1)
 (hc:w.cell? ⟨b,0,none⟩=some u) (h1:u.oneCell'=true) (hn:xs.length<=999999999) (hB:B<=w.heap.size)
 (h:∀v' w',Own t w' B v' (xs++[u])->w.grownBy w' v.ownBlock->wpList prog ops Q rest (a.put o.dst v') w'):wpList prog ops Q (o::rest) a w:=by
 refine OG hgd s x T t z bytes ho hT hi hz hby B v xs hs hown b 0 1 1 [u] hx rfl ?_ ?_ B0 hB h
 ·intro j u' hj
  cases j with
  |zero=>simp only[B3,I2]at hj;subst hj;exact hc
  |succ j=>simp at hj
 ·intro u' hu;simp only[U3]at hu;subst hu;exact h1
theorem VI:(prog.info? 5).map (fun i=>(i.zero,i.size,i.bytes))=some (some (.int .u8 0),1,1):=B1
theorem OI {w:World} {ops:Array Oper} {rest:List Oper} {o:Oper} {a:Act} {Q:Exit->Act->World->Prop} (hgd:o.guard=none) (s x:Operand)
 (ho:o.op=.call {callee:=.builtin .append,args:= #[s,x],argTypes:= #[90,90]})
 (B:Nat) (v:Value) (l:List UInt8) (hs:a.eval s=v) (hown:Own 5 w B v (l.map encB)) (b:Nat) (u:UInt8) (hx:a.eval x=.slice (some ⟨b,0,none⟩) 1 1)
 (hc:w.cell? ⟨b,0,none⟩=some (encB u)) (hn:l.length<=999999999) (hB:B<=w.heap.size)
 (h:∀v' w',Own 5 w' B v' ((l++[u]).map encB)->w.grownBy w' v.ownBlock->wpList prog ops Q rest (a.put o.dst v') w'):wpList prog ops Q (o::rest) a w:=
 GA hgd s x 90 5 (.int .u8 0) 1 ho underlying90 VI rfl I0 B v _ hs hown b (encB u) hx hc rfl GC hB
  (fun v' w' h1 h2=>h v' w' SG h2)
theorem OJ:(prog.info? 3).map (fun i=>(i.zero,i.size,i.bytes))=some (some (.int .i64 0),1,8):=B1
theorem Zq {w:World} {ops:Array Oper} {rest:List Oper} {o:Oper} {a:Act} {Q:Exit->Act->World->Prop} (hgd:o.guard=none) (s x:Operand)
 (ho:o.op=.call {callee:=.builtin .append,args:= #[s,x],argTypes:= #[43,43]})
 (B:Nat) (v:Value) (l:List Int) (hs:a.eval s=v) (hown:Own 3 w B v (l.map encI)) (b:Nat) (u:Int) (hx:a.eval x=.slice (some ⟨b,0,none⟩) 1 1)
 (hc:w.cell? ⟨b,0,none⟩=some (encI u)) (hn:l.length<=999999999) (hB:B<=w.heap.size)
 (h:∀v' w',Own 3 w' B v' ((l++[u]).map encI)->w.grownBy w' v.ownBlock->wpList prog ops Q rest (a.put o.dst v') w'):wpList prog ops Q (o::rest) a w:=
 GA hgd s x 43 3 (.int .i64 0) 8 ho underlying43 OJ rfl I0 B v _ hs hown b (encI u) hx hc rfl GC hB
  (fun v' w' h1 h2=>h v' w' SG h2)
theorem VJ:(prog.info? 4).map (fun i=>(i.zero,i.size,i.bytes))=some (some (.bool false),1,1):=B1
theorem ZU {w:World} {ops:Array Oper} {rest:List Oper} {o:Oper} {a:Act} {Q:Exit->Act->World->Prop} (hgd:o.guard=none) (s x:Operand)
 (ho:o.op=.call {callee:=.builtin .append,args:= #[s,x],argTypes:= #[26,26]})
 (B:Nat) (v:Value) (l:List Bool) (hs:a.eval s=v) (hown:Own 4 w B v (l.map encT)) (b:Nat) (u:Bool) (hx:a.eval x=.slice (some ⟨b,0,none⟩) 1 1)
 (hc:w.cell? ⟨b,0,none⟩=some (encT u)) (hn:l.length<=999999999) (hB:B<=w.heap.size)
 (h:∀v' w',Own 4 w' B v' ((l++[u]).map encT)->w.grownBy w' v.ownBlock->wpList prog ops Q rest (a.put o.dst v') w'):wpList prog ops Q (o::rest) a w:=
 GA hgd s x 26 4 (.bool false) 1 ho underlying26 VJ rfl I0 B v _ hs hown b (encT u) hx hc rfl GC hB
  (fun v' w' h1 h2=>h v' w' SG h2)
def encS (l:List UInt8):Value:=.string ⟨l.toArray⟩
theorem wM:(prog.info? 9).map (fun i=>(i.zero,i.size,i.bytes))=some (some (.string ⟨#[]⟩),1,16):=B1
end
section
open Go.RowKit Go.WideMaps Go.Maps
abbrev ZY (w:World):Prop:=Lib.TabIs prog w "strings.asciiSpace" .u8 Lib.asciiSpaceTab
theorem OK (s:ByteArray) (h:s.size<=1000000):keyOf prog 9 (.string s)=some (.string s.data.toList):=keyOf_string_mk underlying9 U4
theorem OL {a b c:World} {r:Option Nat} (h:a.grownBy b r) (k:b.grownBy c r):a.grownBy c r:=
 ⟨k.os.trans h.os,k.tape.trans h.tape,k.output.trans h.output,B4 h.size k.size,fun i hi hne=>(k.block i (G2 hi h.size) hne).trans (h.block i hi hne)⟩
def XJ:Array Value:=(Gs.lists.flatMap fun p=>[.string ⟨p.1.toArray⟩,.int .i64 p.2.1,.int .i64 p.2.2.1,.int .i64 p.2.2.2.1,.int .u8 (p.2.2.2.2.toNat:Int)]).toArray
theorem wN:∀n,n<11->∃p,Gs.lists[n]? =some p∧XJ[n*5]? =some (.string ⟨p.1.toArray⟩)∧XJ[n*5+1]? =some (.int .i64 p.2.1)∧XJ[n*5+2]? =some (.int .i64 p.2.2.1)∧XJ[n*5+3]? =some (.int .i64 p.2.2.2.1)∧XJ[n*5+4]? =some (.int .u8 (p.2.2.2.2.toNat:Int)):=by
 intro n hn
 match n,hn with
 |0,_=>exact⟨_,rfl,rfl,rfl,rfl,rfl,rfl⟩
 |1,_=>exact⟨_,rfl,rfl,rfl,rfl,rfl,rfl⟩
 |2,_=>exact⟨_,rfl,rfl,rfl,rfl,rfl,rfl⟩
 |3,_=>exact⟨_,rfl,rfl,rfl,rfl,rfl,rfl⟩
 |4,_=>exact⟨_,rfl,rfl,rfl,rfl,rfl,rfl⟩
 |5,_=>exact⟨_,rfl,rfl,rfl,rfl,rfl,rfl⟩
 |6,_=>exact⟨_,rfl,rfl,rfl,rfl,rfl,rfl⟩
 |7,_=>exact⟨_,rfl,rfl,rfl,rfl,rfl,rfl⟩
 |8,_=>exact⟨_,rfl,rfl,rfl,rfl,rfl,rfl⟩
 |9,_=>exact⟨_,rfl,rfl,rfl,rfl,rfl,rfl⟩
 |10,_=>exact⟨_,rfl,rfl,rfl,rfl,rfl,rfl⟩
theorem zR (w:World) (ht:ZY w):
 Calls prog 53 #[] w fun e w'=>∃b,e=.returned (.map (some b))∧w'.ownsMap prog 9 A7 b 200 (Gs.tabOf Gs.dir)∧w.heap.size<=b∧Ext w w':=by
 have HT:=A0 ht
 have hmm:= @run_makeMap prog
 have K:=string_keyed (P:=prog) underlying9
 obtain⟨w1,r1,o1,g1⟩:=(World.ownsMap_made w prog 9 A7).update K underlying78 I0 (OK ⟨#[48,48]⟩ I0) (OE (1,18,18,0))
 obtain⟨w2,r2,o2,g2⟩:=o1.update K underlying78 I0 (OK ⟨#[50,48]⟩ I0) (OE (0,2,2,0))
 obtain⟨w3,r3,o3,g3⟩:=o2.update K underlying78 I0 (OK ⟨#[56,48,50,48]⟩ I0) (OE (3,1,25,0))
 replace r1:(Instr.mapUpdate 78 (.map (some w.heap.size)) (.string ⟨#[48,48]⟩) (.agg #[.int .i64 1,.int .i64 18,.int .i64 18,.int .u8 0])).run prog (w.alloc (.map #[] 0))=.ok () w1:=r1
 replace r2:(Instr.mapUpdate 78 (.map (some w.heap.size)) (.string ⟨#[50,48]⟩) (.agg #[.int .i64 0,.int .i64 2,.int .i64 2,.int .u8 0])).run prog w1=.ok () w2:=r2
 replace r3:(Instr.mapUpdate 78 (.map (some w.heap.size)) (.string ⟨#[56,48,50,48]⟩) (.agg #[.int .i64 3,.int .i64 1,.int .i64 25,.int .u8 0])).run prog w2=.ok () w3:=r3
 clear ht
 go_enter func53,ntmps53
 go_wp2
 have hW:∃W:World,W=w3.alloc (.cells XJ 139):=⟨_,rfl⟩
 obtain⟨W,hW⟩:=hW
 have hsz3:w.heap.size<w3.heap.size:=o3.lt
 have hWs:W.heap.size=w3.heap.size+1:=by rw[hW];simp
 have HC:Hid (∀wr,W.grownBy wr (some w.heap.size)->∀k,wr.cell? ⟨w3.heap.size,k,none⟩=XJ[k]?):=A0 (fun wr hg k=>by have hb:wr.heap[w3.heap.size]? =W.heap[w3.heap.size]? :=hg.block w3.heap.size B0 GD;rw[World.cell?_of_block (w:=W) (a:=⟨w3.heap.size,k,none⟩) hb,hW];unfold World.cell?;rw[L2];rfl)
 have oW:W.ownsMap prog 9 A7 w.heap.size 3 (Gs.tabOf (Gs.ents 0)):=by rw[hW];exact o3.alloc _
 have hxW:Ext w W:=by rw[hW];exact((((Ext.refl w).alloc _).ofGrown g1 (fun k hk=>by cases hk;exact K0 _)).ofGrown g2 (fun k hk=>by cases hk;exact K0 _)).ofGrown g3 (fun k hk=>by cases hk;exact K0 _) |>.alloc _
 have HWE:=A0 hW
 clear r1 r2 r3 o1 o2 o3 g1 g2 g3 hmm hW
 go_loopw [37] (fun i wr=>∃n:Nat,n<=11∧i=.int .i64 (n:Int)∧wr.ownsMap prog 9 A7 w.heap.size (3+10*n) (Gs.tabOf (Gs.ents n))∧W.grownBy wr (some w.heap.size)∧Ext w wr) (fun i _=>11-(intOf i).toNat)
 case atStart=>have hW:=HWE.out;subst hW;exact⟨0,O0 _,rfl,oW,World.grownBy.refl _ _,hxW⟩
 case round=>clear oW hxW;obtain⟨n,hn,rfl,hown,hgr,hxr⟩:=hrel;by_cases hlt:n<11;(·obtain⟨p,hp,q0,q1,q2,q3,q4⟩:=wN n hlt;have HES:=A0 (wI n p hp);have HSM:=A0 (wL p (J1 hp));obtain⟨pw,pk,pl,pm,ps⟩:=p;dsimp only at q0 q1 q2 q3 q4 HSM;have c0:=(HC.out wr hgr (n*5)).trans q0;have c1:=(HC.out wr hgr (n*5+1)).trans q1;have c2:=(HC.out wr hgr (n*5+2)).trans q2;have c3:=(HC.out wr hgr (n*5+3)).trans q3;have c4:=(HC.out wr hgr (n*5+4)).trans q4;obtain⟨P,hP⟩:∃P:ByteArray,P=⟨pw.toArray⟩:=⟨_,rfl⟩;rw[<-hP]at c0;have HP:Hid (P.data.toList=pw):=A0 (by rw[hP]);clear q0 q1 q2 q3 q4 hp hP;obtain⟨wo,rfl⟩:∃wo:World,wo=wr:=⟨_,rfl⟩;obtain⟨V,hV⟩:∃V:World,V=wo.alloc (.cells #[.string P,.int .i64 pk,.int .i64 pl,.int .i64 pm,.int .u8 (ps.toNat:Int)] 139):=⟨_,rfl⟩;have hxV:Ext w V:=(by rw[hV];exact hxr.alloc _);obtain⟨s1,s2,s3,s4⟩:=HSM.out;have HFD:=A0 (Tryz.strings_Fields P V (by rw[<-Zd,HP.out];omega) (fun j b hj=>s2 b (by rw[<-HP.out];exact J1 hj)) (Z2 HT.out hxV));rw[HP.out]at HFD;have HFK:Hid (∀(m:Nat) (k:List UInt8),(Lib.fields pw)[m]? =some k->k.length<=10):=A0 (fun m k h=>s4 k (J1 h));have HWD:Hid (∀(m:Nat) (k:List UInt8),(Lib.fields pw)[m]? =some k->(Gs.words (pw,pk,pl,pm,ps)).take (m+1)=(Gs.words (pw,pk,pl,pm,ps)).take m++[(k,pk,pl,pm,ps)]):=A0 (fun m k h=>by unfold Gs.words;rw[N6,J2,h];rfl);have HWL:Hid ((Gs.words (pw,pk,pl,pm,ps)).take (Lib.fields pw).length=Gs.words (pw,pk,pl,pm,ps)):=A0 (X1 (by simp[Gs.words]));generalize Gs.words (pw,pk,pl,pm,ps)=WD at*;have hFl:(Lib.fields pw).length<=10:=s3;generalize Lib.fields pw=F at*;have hVs:V.heap.size=wo.heap.size+1:=(by rw[hV];simp);have hws3:w3.heap.size+1<=wo.heap.size:=(by have:=hgr.size;omega);obtain⟨X,hX⟩:∃X:World,X=V.alloc (.cells (F.map fun l=>Value.string ⟨l.toArray⟩).toArray 9):=⟨_,rfl⟩;have hXs:X.heap.size=wo.heap.size+2:=(by rw[hX];exact S0);have hXk:X.heap[V.heap.size]? =some (.cells (F.map fun l=>Value.string ⟨l.toArray⟩).toArray 9):=(by rw[hX];exact OM);have hXv:X.heap[wo.heap.size]? =some (.cells #[.string P,.int .i64 pk,.int .i64 pl,.int .i64 pm,.int .u8 (ps.toNat:Int)] 139):=(by have h1:V.heap[wo.heap.size]? =some (.cells #[.string P,.int .i64 pk,.int .i64 pl,.int .i64 pm,.int .u8 (ps.toNat:Int)] 139):=(by rw[hV];exact OM);rw[<-h1,hX];exact(GE V _ none).block wo.heap.size B0 L0);have HCX:Hid (∀wq,X.grownBy wq (some w.heap.size)->(∀(m:Nat) (k:List UInt8),F[m]? =some k->wq.cell? ⟨wo.heap.size+1,m,none⟩=some (.string ⟨k.toArray⟩))∧wq.cell? ⟨wo.heap.size,1,none⟩=some (.int .i64 pk)∧wq.cell? ⟨wo.heap.size,2,none⟩=some (.int .i64 pl)∧wq.cell? ⟨wo.heap.size,3,none⟩=some (.int .i64 pm)∧wq.cell? ⟨wo.heap.size,4,none⟩=some (.int .u8 (ps.toNat:Int))):=A0 (fun wq hg=>by have e1:=(hg.block V.heap.size B0 GD).trans hXk;have e2:=(hg.block wo.heap.size B0 GD).trans hXv;refine⟨fun m k hk=> ?_,?_,?_,?_,?_⟩;(·unfold World.cell?;rw[hVs]at e1;rw[e1];simp[hk]);all_goals unfold World.cell?;rw[e2];rfl);have oX:X.ownsMap prog 9 A7 w.heap.size (3+10*n) (Gs.tabOf (Gs.ents n)):=(by rw[hX,hV];exact(hown.alloc _).alloc _);have gX:W.grownBy X (some w.heap.size):=(by rw[hX,hV];exact OL (OL hgr (GE _ _ _)) (GE _ _ _));have hxX:Ext w X:=(by rw[hX];exact hxV.alloc _);rw[<-hX]at HFD;have HVE:=A0 hV;clear hV hX hXk hXv hown hgr hxr hxV s1 s2 s3 s4;go_wp2_with fail;rw[<-HVE.out];refine HFD.out.mono ?_;rintro e w5 ⟨rfl,rfl⟩;clear c0 c1 c2 c3 c4;go_wp2;go_loopw [45] (fun i wq=>∃m:Nat,m<=F.length∧i=.int .i64 (m:Int)∧wq.ownsMap prog 9 A7 w.heap.size (3+10*n+m) (Gs.tabOf (Gs.ents n++WD.take m))∧w5.grownBy wq (some w.heap.size)∧Ext w wq) (fun i _=>F.length-(intOf i).toNat);(case atStart=>exact⟨0,O0 _,rfl,by simpa using oX,World.grownBy.refl _ _,hxX⟩);case round=>clear oX hxX;obtain⟨m,hm,rfl,hown,hgq,hxq⟩:=hrel;by_cases hml:m<F.length;(·obtain⟨k,hk⟩:∃k,F[m]? =some k:=⟨_,M0 hml⟩;obtain⟨f1,d1,d2,d3,d4⟩:=HCX.out wr hgq;have f0:=f1 m k hk;have hkl:=HFK.out m k hk;have HT1:=A0 (HWD.out m k hk);obtain⟨KB,hKB⟩:∃KB:ByteArray,KB=⟨k.toArray⟩:=⟨_,rfl⟩;rw[<-hKB]at f0;have hkey:keyOf prog 9 (.string KB)=some (.string k):=(by rw[OK KB (by rw[hKB];simp[ByteArray.size];omega),hKB]);clear f1 hk hKB;go_wp2_with (at_mapUpdate;go_loud (refine wpList_mapUpdate_own _ rfl _ _ _ 78 rfl 9 138 K underlying78 A7 w.heap.size _ _ rfl hown U4 _ _ _ rfl rfl hkey (W8 (pk,pl,pm,ps)) [] rfl ?_));intro w6 hown6 hg6;have hx6:=hxq.ofGrown hg6 (fun j hj=>by cases hj;exact K0 _);have hg56:=OL hgq hg6;clear hown hgq hxq hg6 hkey f0 d1 d2 d3 d4;go_wp2;go_roundw;(case rel=>exact⟨m+1,by omega,by go_num,by rw[HT1.out,<-M3,zK];exact hown6,hg56,hx6⟩);case measure=>exact Q8);·obtain rfl:m=F.length:=B0;rw[HWL.out,<-HES.out]at hown;have hg7:=OL gX hgq;clear hm hml hgq;go_wp2;go_roundw;(case rel=>exact⟨n+1,by omega,by go_num,hown.mono B0,hg7,hxq⟩);case measure=>exact Q8);·obtain rfl:n=11:=B0;clear hn hlt;go_wp2;go_ret;exact⟨w.heap.size,rfl,hown.mono B0,K0 _,hxr⟩
end
end Go.Proofs.YtbngggoccndefaaGreatDoor
