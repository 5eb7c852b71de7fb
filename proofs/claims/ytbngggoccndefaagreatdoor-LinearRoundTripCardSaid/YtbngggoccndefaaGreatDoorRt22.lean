/-
  Laid.
-/
import Derived.Test.YtbngggoccndefaaGreatDoorRt19
import Derived.Test.YtbngggoccndefaaGreatDoorRt20
set_option maxHeartbeats 8000000
set_option maxRecDepth 100000
set_option linter.all false
namespace Go.Proofs.YtbngggoccndefaaGreatDoor
open Go.Proofs.Tryz
section
open Go.RowKit
theorem kD:(prog.info? 92).map (·.size)=some 2:=Y0
theorem mF:liesAt prog prog.depth 92 (2/prog.cellsOf 92) 0 92 1=true:=Y0
theorem mG (b:Nat) (w:World) (h0:w.cell? ⟨b,0,none⟩=some (.pointer (some ⟨b,0,none⟩))):
 Calls prog 101 #[.pointer (some ⟨b,0,none⟩)] w fun e w'=>e=.returned (.tuple #[])∧w'=w:=by
 obtain⟨j,hj,_⟩:=XN.1 kD
 go_enter func101,ntmps101
 go_wp2
 rw[Lib.run_neq_ptr_same w _ underlying89 hj]
 go_wp2
 go_end0
 exact⟨rfl,rfl⟩
theorem mH (b:Nat) (w:World) (h0:w.cell? ⟨b,0,none⟩=some (.pointer none)) (hsh:w.shape? b=some (92,2)) (hfz:w.frozen? ⟨b,0,none⟩=false):
 Calls prog 101 #[.pointer (some ⟨b,0,none⟩)] w fun e w'=>e=.returned (.tuple #[])∧w'=w.setCell ⟨b,0,none⟩ (.pointer (some ⟨b,0,none⟩)):=by
 obtain⟨j,hj,hjs⟩:=XN.1 kD
 go_enter func101,ntmps101
 go_wp2
 rw[Lib.run_to_unsafe w ⟨b,0,none⟩ underlying89 underlying202 hj (by rw[hjs];decide) hsh (Nat.zero_lt_succ 1)]
 simp only[Result.andThen]
 rw[GZ]
 go_wp2
 rw[run_callFunc_extern func163 M0 M0 M0 (e:=Extern.AbiNoEscape.same) M0]
 rw[Lib.run_noEscape]
 simp only[Result.andThen]
 rw[GZ]
 go_wp2
 rw[Lib.run_from_unsafe w ⟨b,0,none⟩ underlying202 underlying89 hj hsh mF]
 simp only[Result.andThen]
 rw[GZ]
 go_wp2
 go_end0
 exact⟨rfl,rfl⟩
theorem mI (B b:Nat) (bs:List Value) (w:World) (h:Lib.IsBuilder 92 5 B b bs w):
 Calls prog 101 #[.pointer (some ⟨b,0,none⟩)] w fun e w'=>e=.returned (.tuple #[])∧(Lib.BuilderAt 92 5 B b (.pointer (some ⟨b,0,none⟩)) bs w'∧Below B w w'):=by
 rcases h with h|h
 ·refine(mH b w h.cell0 h.shape h.frozen0).mono ?_;rintro e w' ⟨rfl,rfl⟩;exact⟨rfl,h.used _,(R9 B w).setCell (p:=⟨b,0,none⟩) h.1 _⟩
 ·refine(mG b w h.cell0).mono ?_;rintro e w' ⟨rfl,rfl⟩;exact⟨rfl,h,R9 B _⟩
theorem mJ (B b:Nat) (bs:List Value) (s:ByteArray) (w:World) (h:Lib.IsBuilder 92 5 B b bs w) (hlen:bs.length+s.size<=140737488355328) (hBw:B<=w.heap.size):
 Calls prog 59 #[.pointer (some ⟨b,0,none⟩),.string s] w fun e w'=>e=.returned (.tuple #[.int .i64 s.size,.nilIface])∧(Lib.IsBuilder 92 5 B b (bs++Lib.strCells s) w'∧Below B w w'):=by
 obtain⟨i0,hi,hz0,hz1,hz2⟩:=C5 XG
 go_enter func59,ntmps59
 go_wp2_with fail
 refine(mI B b bs _ h).mono ?_
 rintro e w1 ⟨rfl,h1,hb1⟩
 obtain⟨hB,v,hbk,hown,hne⟩:=h1
 have c0:w1.cell? ⟨b,0,none⟩=some (.pointer (some ⟨b,0,none⟩)):=by rw[ON hbk];rfl
 have c1:w1.cell? ⟨b,1,none⟩=some v:=by rw[ON hbk];rfl
 go_wp2_with (at_builtin;refine Lib.wpList_append_own_string _ rfl _ _ 90 9 rfl B 5 i0 underlying90 underlying9 hi hz0 hz1 hz2 _ _ _ rfl hown s rfl ?c3 ?c4 ?c5 ?_)
 case c3=>exact F7
 case c4=>omega
 case c5=>have:=hb1.size;omega
 intro v' w2 hown' hgrow _
 have hlt:b<w1.heap.size:=by rcases N5 b w1.heap.size with h'|h';(·exact h');·simp[XY h']at hbk
 have hb2:w2.heap[b]? =some (.cells #[.pointer (some ⟨b,0,none⟩),v] 92 (0,0)):=by rw[hgrow.block b hlt (fun e=>hne e.symm)];exact hbk
 have d0:w2.cell? ⟨b,0,none⟩=some (.pointer (some ⟨b,0,none⟩)):=by rw[ON hb2];rfl
 have d1:w2.cell? ⟨b,1,none⟩=some v:=by rw[ON hb2];rfl
 have f1:w2.frozen? ⟨b,1,none⟩=false:=FA hb2 1
 obtain⟨ao,n',cap,rfl⟩:∃ao n' cap,v'=.slice ao n' cap:=by rcases hown'.2 with⟨hv,_⟩|⟨g,cap,cur,hv,_⟩;(·exact⟨_,_,_,hv⟩);·exact⟨_,_,_,hv⟩
 go_wp2
 go_ret2
 refine⟨rfl,.inr ?_,?_⟩
 ·exact Lib.BuilderAt.put (T:=92) (e:=5) hB hb2 (bs':=bs++Lib.strCells s) (by simpa[Lib.strCells_length]using hown') J0
 ·exact(hb1.grown hgrow (by have:=hb1.size;omega) (fun k hk=>(hown.lt k hk).1)).setCell (p:=⟨b,1,none⟩) hB _
theorem mK {B b:Nat} {bs:List Value} {w w':World} (h:Lib.IsBuilder 92 5 B b bs w) (hx:Ext w w'):Lib.IsBuilder 92 5 B b bs w':=by
 have key:∀p,Lib.BuilderAt 92 5 B b p bs w->Lib.BuilderAt 92 5 B b p bs w':=by
  rintro p ⟨hB,v,hb,hown,hne⟩
  have hlt:b<w.heap.size:=by rcases N5 b w.heap.size with h'|h';(·exact h');·simp[XY h']at hb
  refine⟨hB,v,by rw[hx.block b hlt];exact hb,hown.kept hx.asGrown ?_,hne⟩
  cases hv:v.ownBlock with
  |none=>exact .inl rfl
  |some k=>exact .inr L0
 exact h.elim (fun x=>.inl (key _ x)) (fun x=>.inr (key _ x))
end
section
open Go.RowKit Go.WideMaps Go.Maps
def tab:Nat->DataW Unit
 |0=>.map []
 |k+1=>(tab k).put (.string (Tw.rep (UInt8.ofNat k))) (.lit (.int .u8 (k:Int)))
end
section
open Go.RowKit
theorem kE (kind:Int) (s:ByteArray) (r:Int) (check:Bool) (addon:ByteArray) (w:World) (hs:s.size<=9223372036854775807):
 Calls prog 20 #[.int .i64 kind,.string s,.agg #[.int .i64 r,.bool check,.string addon]] w (EncR (Tw.enc kind s.data.toList r check) w):=by
 unfold Tw.enc
 split
 ·rename_i h;subst h;exact LA 0 5 s r check addon w hs CO
 split
 ·rename_i h;subst h;exact LA 1 6 s r check addon w hs CP
 split
 ·rename_i h;subst h;exact LA 2 7 s r check addon w hs CQ
 rename_i h5 h6 h7
 have HF:=B0 (fun w=>CR kind w h5 h6 h7)
 clear h5 h6 h7
 go_enter func20,ntmps20
 go_wp2_with fail
 refine(HF.out _).mono ?_
 rintro e w1 ⟨rfl,hx1⟩
 go_wp2
 go_ret2
 exact⟨.slice none 0 0,rfl,UH _,((((Ext.refl w).alloc _).trans hx1).alloc _)⟩
theorem kF (kind:Int) (v:Value) (ws:List Int) (check:Bool) (w:World) (hv:Sl w v (ws.map encI)) (hl:ws.length<=1000000):
 Calls prog 21 #[.int .i64 kind,v,.bool check] w (DecR (Tw.dec kind ws check) w):=by
 unfold Tw.dec
 split
 ·rename_i h;subst h;exact GO 0 5 v ws check w hv hl CO
 split
 ·rename_i h;subst h;exact GO 1 6 v ws check w hv hl CP
 split
 ·rename_i h;subst h;exact GO 2 7 v ws check w hv hl CQ
 rename_i h5 h6 h7
 have HF:=B0 (fun w=>CR kind w h5 h6 h7)
 clear h5 h6 h7
 obtain⟨a,c,rfl⟩:=hv.form
 clear hv
 go_enter func21,ntmps21
 go_wp2_with fail
 refine(HF.out _).mono ?_
 rintro e w1 ⟨rfl,hx1⟩
 go_wp2
 go_ret2
 exact⟨rfl,hx1.alloc _⟩
theorem O9 (s:ByteArray):encS s.data.toList=.string s:=by unfold encS;rw[Zt]
def elC (xs:List Gs.El):List Value:=xs.flatMap fun x=>[encS x.1,encS x.2]
theorem mL (xs:List Gs.El) (x:Gs.El):elC (xs++[x])=elC xs++[encS x.1,encS x.2]:=by simp[elC]
theorem mM (xs:List Gs.El):∀(i:Nat) (x:Gs.El),xs[i]? =some x->(elC xs)[i*2]? =some (encS x.1)∧(elC xs)[i*2+1]? =some (encS x.2):=by
 induction xs with
 |nil=>intro i x h;simp at h
 |cons y ys ih=>
  intro i x h
  cases i with
  |zero=>simp only[E3,A2]at h;subst h;exact⟨rfl,rfl⟩
  |succ i=>rw[R3]at h;have:=ih i x h;have e1:(i+1)*2=i*2+1+1:=C0;rw[e1];simp only[elC,P5,P2,E4,R3]at this⊢;exact R2
def EOwn (w:World) (B:Nat) (v:Value) (xs:List Gs.El):Prop:=w.ownsRow B 86 2 v xs.length (elC xs)
theorem EOwn.nil (w:World) (B:Nat):EOwn w B (.slice none 0 0) []:=VM _ _ _ _
section
variable {w w':World} {B:Nat} {v:Value} {xs:List Gs.El}
theorem EOwn.ext (h:EOwn w B v xs) (hx:Ext w w'):EOwn w' B v xs:=by
 refine T8 h hx.asGrown ?_
 cases hv:v.ownBlock with
 |none=>exact .inl rfl
 |some k=>exact .inr L0
theorem EOwn.low (h:EOwn w B v xs):∀k,v.ownBlock=some k->B<=k:=fun k hk=>(J4 h k hk).1
end
def ESl (w:World) (v:Value) (xs:List Gs.El):Prop:=
 (xs=[]∧∃a c,v=.slice a 0 c)∨∃b off cap,v=.slice (some ⟨b,off,none⟩) xs.length cap∧b<w.heap.size∧∀i x,xs[i]? =some x->w.cell? ⟨b,off+i*2,none⟩=some (encS x.1)∧w.cell? ⟨b,off+i*2+1,none⟩=some (encS x.2)
theorem ESl.ext {w w':World} {v:Value} {xs:List Gs.El} (h:ESl w v xs) (hx:Ext w w'):ESl w' v xs:=by
 rcases h with h|⟨b,off,cap,h1,h2,h3⟩;·exact .inl h
 ·refine .inr ⟨b,off,cap,h1,M1 h2 hx.size,fun i x hi=> ?_⟩;rw[hx.cell (p:=⟨b,off+i*2,none⟩) h2,hx.cell (p:=⟨b,off+i*2+1,none⟩) h2];exact h3 i x hi
theorem EOwn.sl {w:World} {B:Nat} {v:Value} {xs:List Gs.El} (h:EOwn w B v xs):ESl w v xs:=by
 rcases h.2 with⟨hnil,h0⟩|⟨g,cap,cur,hv,hbase,hb,h1,h2,h3,h4⟩;·exact EU
 ·refine .inr ⟨g,0,cap,hv,(F3.1 hb).1,fun i x hi=> ?_⟩;have hh:=h;unfold EOwn at hh;rw[hv]at hh;have hil:i<xs.length:=EW;rw[P3,hh.cellAt (i*2) C0,hh.cellAt (i*2+1) C0];exact mM xs i x hi
theorem ESl.form {w:World} {v:Value} {xs:List Gs.El} (h:ESl w v xs):∃a c,v=.slice a xs.length c:=NT
theorem ESl.at_ {w:World} {a:Option Addr} {n c:Nat} {xs:List Gs.El} (h:ESl w (.slice a n c) xs) {k:Nat} {x:Gs.El} (hk:xs[k]? =some x):
 ∃b off,a=some ⟨b,off,none⟩∧b<w.heap.size∧w.cell? ⟨b,off+k*2,none⟩=some (encS x.1)∧w.cell? ⟨b,off+k*2+1,none⟩=some (encS x.2):=by
 rcases h with⟨rfl,_⟩|⟨b,off,cap,he,hb,hc⟩
 ·simp at hk
 ·injection he with h1 h2 h3;exact⟨b,off,h1,hb,hc k x hk⟩
theorem mN:(prog.info? 86).map (fun i=>(i.zero,i.size,i.bytes))=some (some (.agg #[.string ⟨#[]⟩,.string ⟨#[]⟩]),2,32):=Y0
theorem kG {w:World} {ops:Array Oper} {rest:List Oper} {o:Oper} {a:Act} {Q:Exit->Act->World->Prop} (hgd:o.guard=none) (s x:Operand)
 (ho:o.op=.call {callee:=.builtin .append,args:= #[s,x],argTypes:= #[39,39]})
 (B:Nat) (v:Value) (xs:List Gs.El) (hs:a.eval s=v) (hown:EOwn w B v xs) (b:Nat) (u:Gs.El) (hx:a.eval x=.slice (some ⟨b,0,none⟩) 1 1)
 (hc:w.cell? ⟨b,0,none⟩=some (encS u.1)) (hc1:w.cell? ⟨b,1,none⟩=some (encS u.2)) (hn:xs.length<=999999999) (hB:B<=w.heap.size)
 (h:∀v' w',EOwn w' B v' (xs++[u])->w.grownBy w' v.ownBlock->wpList prog ops Q rest (a.put o.dst v') w'):wpList prog ops Q (o::rest) a w:=by
 obtain⟨i0,hi,hz0,hz1,hz2⟩:=C5 mN
 refine VN _ hgd s x 39 ho B 86 i0 _ 2 32 underlying39 hi hz0 hz1 hz2 rfl J0 v xs.length (elC xs) hs hown ⟨b,0,none⟩ 1 1 [encS u.1,encS u.2] hx rfl ?_ ?_ ?_ ?_ hB ?_
 ·intro j u' hj
  rw[VL]
  match j with
  |0=>simp only[E3,A2]at hj;subst hj;exact hc
  |1=>simp only[R3,E3,A2]at hj;subst hj;exact hc1
  |j+2=>simp at hj
 ·exact kH
 ·exact F7
 ·exact kI
 ·intro v' w' h1 h2 _;refine h v' w' ?_ h2;unfold EOwn;rw[O0,mL];exact h1
end
section
open Go.RowKit Go.WideMaps Go.Maps
def preV:Option (List UInt8×Gs.Rule)->Value
 |none=>.tuple #[.string ⟨#[]⟩,Z4 (0,0,0,0),.bool false]
 |some (a,r)=>.tuple #[encS a,Z4 r,.bool true]
def PreR (o:Option (List UInt8×Gs.Rule)) (w:World) (e:Ending) (w':World):Prop:=e=.returned (preV o)∧Ext w w'
def ZJ (w:World) (b:Nat) (r:Gs.Rule):Prop:=w.heap[b]? =some (.cells #[.int .i64 r.1,.int .i64 r.2.1,.int .i64 r.2.2.1,.int .u8 (r.2.2.2.toNat:Int)] 138 (0,0))
theorem ZJ.cells {w:World} {b:Nat} {r:Gs.Rule} (h:ZJ w b r):w.cell? ⟨b,0,none⟩=some (.int .i64 r.1)∧w.cell? ⟨b,1,none⟩=some (.int .i64 r.2.1)∧w.cell? ⟨b,2,none⟩=some (.int .i64 r.2.2.1)∧w.cell? ⟨b,3,none⟩=some (.int .u8 (r.2.2.2.toNat:Int)):=by unfold ZJ at h;refine⟨?_,?_,?_,?_⟩;all_goals unfold World.cell?;rw[h];rfl
theorem ZJ.free {w:World} {b:Nat} {r:Gs.Rule} (h:ZJ w b r) (i:Nat):w.frozen? ⟨b,i,none⟩=false:=FA h i
theorem ZJ.put {w:World} {b:Nat} {r:Gs.Rule} (h:ZJ w b r) (q:Gs.Rule):ZJ ((((w.setCell ⟨b,0,none⟩ (.int .i64 q.1)).setCell ⟨b,1,none⟩ (.int .i64 q.2.1)).setCell ⟨b,2,none⟩ (.int .i64 q.2.2.1)).setCell ⟨b,3,none⟩ (.int .u8 (q.2.2.2.toNat:Int))) b q:=
 I5 (I5 (I5 (I5 h _) _) _) _
theorem WT {w:World} {b i:Nat} {cs:Array Value} {T:TypeId} {fr:Nat×Nat} {v:Value} (h:w.heap[b]? =some (.cells cs T fr)) (hi:i<cs.size):(w.setCell ⟨b,i,none⟩ v).cell? ⟨b,i,none⟩=some v:=by unfold World.cell?;rw[I5 h];simp[hi]
theorem ZJ.puts {w:World} {b:Nat} {r:Gs.Rule} (h:ZJ w b r) (q:Gs.Rule):
 (w.setCell ⟨b,0,none⟩ (.int .i64 q.1)).cell? ⟨b,0,none⟩=some (.int .i64 q.1)∧
 ((w.setCell ⟨b,0,none⟩ (.int .i64 q.1)).setCell ⟨b,1,none⟩ (.int .i64 q.2.1)).cell? ⟨b,1,none⟩=some (.int .i64 q.2.1)∧
 (((w.setCell ⟨b,0,none⟩ (.int .i64 q.1)).setCell ⟨b,1,none⟩ (.int .i64 q.2.1)).setCell ⟨b,2,none⟩ (.int .i64 q.2.2.1)).cell? ⟨b,2,none⟩=some (.int .i64 q.2.2.1)∧
 ((((w.setCell ⟨b,0,none⟩ (.int .i64 q.1)).setCell ⟨b,1,none⟩ (.int .i64 q.2.1)).setCell ⟨b,2,none⟩ (.int .i64 q.2.2.1)).setCell ⟨b,3,none⟩ (.int .u8 (q.2.2.2.toNat:Int))).cell? ⟨b,3,none⟩=some (.int .u8 (q.2.2.2.toNat:Int)):=
 ⟨WT h L0,WT (I5 h _) L0,WT (I5 (I5 h _) _) L0,WT (I5 (I5 (I5 h _) _) _) L0⟩
theorem ZJ.puts0 {w:World} {b:Nat} {r:Gs.Rule} (h:ZJ w b r):
 (w.setCell ⟨b,0,none⟩ (.int .i64 0)).cell? ⟨b,0,none⟩=some (.int .i64 0)∧
 ((w.setCell ⟨b,0,none⟩ (.int .i64 0)).setCell ⟨b,1,none⟩ (.int .i64 0)).cell? ⟨b,1,none⟩=some (.int .i64 0)∧
 (((w.setCell ⟨b,0,none⟩ (.int .i64 0)).setCell ⟨b,1,none⟩ (.int .i64 0)).setCell ⟨b,2,none⟩ (.int .i64 0)).cell? ⟨b,2,none⟩=some (.int .i64 0)∧
 ((((w.setCell ⟨b,0,none⟩ (.int .i64 0)).setCell ⟨b,1,none⟩ (.int .i64 0)).setCell ⟨b,2,none⟩ (.int .i64 0)).setCell ⟨b,3,none⟩ (.int .u8 0)).cell? ⟨b,3,none⟩=some (.int .u8 0):=h.puts (0,0,0,0)
theorem ZJ.ext {w w':World} {b:Nat} {r:Gs.Rule} (h:ZJ w b r) (hx:Ext w w'):ZJ w' b r:=by unfold ZJ at h⊢;exact kJ
theorem mO {l:List UInt8} (n:Nat) (h0:∀j,2<=j->j<n->Gs.preN l j=none) (h2:2<=n) (h4:n<=4) {a:List UInt8×Gs.Rule} (h:Gs.preN l n=some a):Gs.pre l=some a:=by
 unfold Gs.pre;have:n=2∨n=3∨n=4:=by omega
 rcases this with rfl|rfl|rfl;·rw[h];rfl
 ·rw[h0 2 C0 C0,h];rfl
 ·rw[h0 2 C0 C0,h0 3 C0 C0,h];rfl
theorem mP {l:List UInt8} (n:Nat) (h0:∀j,2<=j->j<n->Gs.preN l j=none) (h2:2<=n) (h:4<n∨l.length<n):Gs.pre l=none:=by
 have key:∀j,2<=j->j<=4->Gs.preN l j=none:=by intro j h1 h3;rcases N5 j n with hh|hh;(·exact h0 j h1 hh);·unfold Gs.preN;rw[D0 C0]
 unfold Gs.pre;rw[key 2 C0 C0,key 3 C0 C0,key 4 C0 C0];rfl
theorem mQ (s:ByteArray) (b:Nat) (w:World) (hd:Dir w b) (hs:s.size<=1000000):
 Calls prog 218 #[.map (some b),.string s] w (PreR (Gs.pre s.data.toList) w):=by
 have HF:=B0 (fun(n:Nat) (w':World) (hx:Ext w w')=>KC (s.extract 0 n) b w' (hd.ext hx) (by unfold maxLen;rw[FB];omega))
 have HP:=B0 (@mO s.data.toList)
 have HN:=B0 (@mP s.data.toList)
 have HE:=B0 (fun n=>Gs.preN.eq_1 s.data.toList n)
 have HC:=B0 (fun n=>Zz s n)
 have hlen:=Za s
 generalize Gs.pre s.data.toList=res at*
 generalize hl:s.data.toList=l at*
 clear hd hl
 have HL:=B0 hlen
 clear hlen
 go_enter func218,ntmps218
 go_wp2
 go_loopw [7] (fun t wr=>∃n:Nat,2<=n∧n<=5∧t=.int .i64 (n:Int)∧Hid (∀j,2<=j->j<n->Gs.preN l j=none)∧Ext w wr∧Hid (∃r,ZJ wr w.heap.size r)) (fun t _=>5-(intOf t).toNat)
 case atStart=>exact⟨2,by omega,by omega,rfl,B0 (fun j h1 h2=>by omega),(Ext.refl w).alloc _,B0 ⟨(0,0,0,0),E2 _ _⟩⟩
 case round=>
  obtain⟨n,h2,h5,rfl,hno,hx,hr⟩:=hrel;by_cases h4:n<=4
  ·by_cases hle:n<=s.size
   ·obtain⟨r0,hr0⟩:=hr.out
    have H1:=B0 (HF.out n wr hx)
    have HE1:=B0 (HE.out n)
    rw[G0 (by rw[HL.out];exact hle)]at HE1
    rw[HC.out]at H1
    obtain⟨T,hT⟩:∃T,l.take n=T:=⟨_,rfl⟩
    rw[hT]at H1 HE1
    cases hg:Gs.find T with
    |none=>rw[hg]at H1 HE1;have HNX:Hid (∀j,2<=j->j<n+1->Gs.preN l j=none):=B0 (fun j h1 h3=>by rcases N5 j n with hh|hh;(·exact hno.out j h1 hh);·obtain rfl:j=n:=C0;exact HE1.out);clear hg hT HE1;go_wp2_with fail;refine H1.out.mono ?_;rintro e w1 ⟨rfl,hx1⟩;dsimp only[W5,Z4,Option.isSome];have hr1:=hr0.ext hx1;obtain⟨c0,c1,c2,c3⟩:=hr1.cells;have f0:=hr1.free 0;have f1:=hr1.free 1;have f2:=hr1.free 2;have f3:=hr1.free 3;have HR1:=B0 (hr1.put (0,0,0,0));have hxw:=hx.trans hx1;clear hx hx1 hr1 hr0 hr;go_wp2;go_roundw;(case rel=>exact⟨n+1,by omega,by omega,by go_num,HNX,(((hxw.setCell (I0 _) _).setCell (I0 _) _).setCell (I0 _) _).setCell (I0 _) _,B0 ⟨_,HR1.out⟩⟩);case measure=>exact QD
    |some r=>rw[hg]at H1 HE1;have HRES:Hid (res=some (T,r)):=B0 (HP.out n hno.out h2 h4 (by rw[HE1.out];rfl));have HT:Hid (encS T=.string (s.extract 0 n)):=B0 (by rw[<-hT,<-HC.out,O9]);clear hg HE1 HP HN hT;obtain⟨ra,rb,rc,rd⟩:=r;go_wp2_with fail;refine H1.out.mono ?_;rintro e w1 ⟨rfl,hx1⟩;dsimp only[W5,Z4,Option.isSome];have hr1:=hr0.ext hx1;obtain⟨c0,c1,c2,c3⟩:=hr1.cells;have f0:=hr1.free 0;have f1:=hr1.free 1;have f2:=hr1.free 2;have f3:=hr1.free 3;have hxw:=hx.trans hx1;clear hx hx1 hr0 hr;have hr2:=hr1.put (ra,rb,rc,rd);dsimp only at hr2;clear hr1;go_wp2;have hxw2:Ext w ((((w1.setCell ⟨w.heap.size,0,none⟩ (.int .i64 ra)).setCell ⟨w.heap.size,1,none⟩ (.int .i64 rb)).setCell ⟨w.heap.size,2,none⟩ (.int .i64 rc)).setCell ⟨w.heap.size,3,none⟩ (.int .u8 (rd.toNat:Int))):=(((hxw.setCell (I0 _) _).setCell (I0 _) _).setCell (I0 _) _).setCell (I0 _) _;generalize((((w1.setCell ⟨w.heap.size,0,none⟩ (.int .i64 ra)).setCell ⟨w.heap.size,1,none⟩ (.int .i64 rb)).setCell ⟨w.heap.size,2,none⟩ (.int .i64 rc)).setCell ⟨w.heap.size,3,none⟩ (.int .u8 (rd.toNat:Int)))=w2 at*;obtain⟨g0,g1,g2,g3⟩:=hr2.cells;dsimp only at g0 g1 g2 g3;have f0:=hr2.free 0;have f1:=hr2.free 1;have f2:=hr2.free 2;have f3:=hr2.free 3;have HQ:=B0 (hr2.puts (ra,rb,rc,rd));clear hr2 hxw c0 c1 c2 c3;go_region;all_goals go_wp2;obtain⟨p0,p1,p2,p3⟩:=HQ.out;refine A4 (v:=.tuple #[.string (s.extract 0 n),.agg #[.int .i64 ra,.int .i64 rb,.int .i64 rc,.int .u8 (rd.toNat:Int)],.bool true]) kK rfl ⟨by rw[HRES.out];simp only[preV,HT.out,Z4],Xf⟩
   ·have HRES:Hid (res=none):=B0 (HN.out n hno.out h2 (.inr (by rw[HL.out];omega)));obtain⟨r0,hr0⟩:=hr.out;obtain⟨c0,c1,c2,c3⟩:=hr0.cells;have f0:=hr0.free 0;have f1:=hr0.free 1;have f2:=hr0.free 2;have f3:=hr0.free 3;have HQ:=B0 hr0.puts0;have hle':(s.size:Int)<(n:Int):=C0;exact kL
  ·have HRES:Hid (res=none):=B0 (HN.out n hno.out h2 (.inl C0));obtain⟨r0,hr0⟩:=hr.out;obtain⟨c0,c1,c2,c3⟩:=hr0.cells;have f0:=hr0.free 0;have f1:=hr0.free 1;have f2:=hr0.free 2;have f3:=hr0.free 3;have HQ:=B0 hr0.puts0;exact kL
theorem kM (v:Value) (xs:List Gs.El) (b:Nat) (w:World) (hd:Dir w b) (hl:ESl w v xs) (hn:xs.length<=1000000000000) (hs:∀x∈xs,x.1.length<=maxLen∧x.2.length<=maxLen):
 Calls prog 58 #[.map (some b),v] w fun e w'=>e=.returned (.int .i64 (Gs.verAll xs))∧Ext w w':=by
 obtain⟨a,c,rfl⟩:=hl.form
 have HV:=B0 (fun(w':World) (hx:Ext w w') (ai d:ByteArray) (h1:ai.size<=maxLen) (h2:d.size<=maxLen)=>KJ ai d b w' (hd.ext hx) h1 h2)
 have HL:=B0 hl
 have HS:=B0 hs
 have HR:=B0 (Gs.verAll.eq_1 xs)
 generalize Gs.verAll xs=res at*
 clear hl hd hs
 by_cases h0:xs=[]
 ·subst h0;rw[G0 rfl]at HR;clear HV HL HS;go_enter func58,ntmps58;go_wp2;go_ret;exact⟨Z3 HR.out.symm,Ext.refl _⟩
 ·rw[D0 h0]at HR;obtain⟨N,hN⟩:∃N,xs.length=N:=⟨_,rfl⟩;have hN0:0<N:=(by rw[<-hN];exact F6.2 h0);have hN1:((N:Int)==0)=false:=QY;have HN:=B0 hN;rw[hN]at hn HL⊢;clear h0 hN;go_enter func58,ntmps58;go_wp2;go_loopw [13] (fun t wr=>∃k:Nat,k<=N∧t=.int .i64 (k:Int)∧Hid (res=Gs.verL (xs.drop k))∧Ext w wr) (fun t _=>N-(intOf t).toNat);(case atStart=>exact⟨0,U0 _,rfl,HR,Ext.refl w⟩);case round=>obtain⟨k,hk,rfl,hv,hx⟩:=hrel;by_cases hlt:k<N;(·obtain⟨x,hxk⟩:∃x,xs[k]? =some x:=⟨_,P0 OO⟩;obtain⟨bb,off,ha,hb,q0,q1⟩:=HL.out.at_ hxk;subst ha;have d0:=(hx.cell (p:=⟨bb,off+k*2,none⟩) hb).trans q0;have d1:=(hx.cell (p:=⟨bb,off+k*2+1,none⟩) hb).trans q1;have hdr:xs.drop k=x::xs.drop (k+1):=kN;have HV1:=B0 (hv.out.trans (by rw[hdr,Gs.verL]));obtain⟨s1,s2⟩:=HS.out x (I1 hxk);obtain⟨xa,xd⟩:=x;unfold encS at d0 d1;dsimp only at d0 d1 s1 s2 HV1;have HB:Hid ((⟨xa.toArray⟩:ByteArray).data.toList=xa∧(⟨xd.toArray⟩:ByteArray).data.toList=xd∧(⟨xa.toArray⟩:ByteArray).size<=maxLen∧(⟨xd.toArray⟩:ByteArray).size<=maxLen):=B0 (by simp[ByteArray.size];exact⟨s1,s2⟩);generalize(⟨xa.toArray⟩:ByteArray)=A at*;generalize(⟨xd.toArray⟩:ByteArray)=D at*;clear hxk q0 q1 hdr s1 s2 hv;go_wp2_with fail;obtain⟨b1,b2,b3,b4⟩:=HB.out;have H1:=B0 (HV.out _ (hx.alloc (.cells #[.string A,.string D] 86)) A D b3 b4);rw[b1,b2]at H1;clear b1 b2 b3 b4;by_cases hz:Gs.ver xa xd=0;(·rw[G0 hz]at HV1;rw[hz]at H1;clear hz;refine H1.out.mono ?_;rintro e w1 ⟨rfl,hx1⟩;clear d0 d1;go_wp2;go_roundw;(case rel=>exact⟨k+1,by omega,by go_num,HV1,(hx.alloc _).trans hx1⟩);case measure=>exact QD);·rw[D0 hz]at HV1;obtain⟨z,hzz⟩:∃z,Gs.ver xa xd=z:=⟨_,rfl⟩;rw[hzz]at H1 HV1 hz;have hz1:(z==0)=false:=OP;clear hzz;refine H1.out.mono ?_;rintro e w1 ⟨rfl,hx1⟩;clear d0 d1;go_wp2;go_ret;exact⟨Z3 HV1.out.symm,(hx.alloc _).trans hx1⟩);·obtain rfl:k=N:=C0;have HV1:Hid (res=0):=B0 (by rw[hv.out,<-HN.out,M6];rfl);clear hk hlt hv;go_wp2;go_ret;exact⟨Z3 HV1.out.symm,hx⟩
theorem kO (c:UInt8) (l:List UInt8):Lib.indexByte l c=if(Gs.upto c l).length=l.length then-1 else((Gs.upto c l).length:Int):=by
 induction l with
 |nil=>rfl
 |cons b l ih=>by_cases h:b=c;(·subst h;simp[Lib.indexByte,Gs.upto]);·have hb:(b==c)=false:=A6;simp only[Lib.indexByte,Gs.upto,D0 h,hb,PM,I7,S0];rw[ih];by_cases h1:(Gs.upto c l).length=l.length;(·have h2:(Gs.upto c l).length+1=l.length+1:=C0;simp only[G0 h1,G0 h2];rfl);·have h2:¬(Gs.upto c l).length+1=l.length+1:=C0;have h3:(((Gs.upto c l).length:Int)== -1)=false:=QY;simp only[D0 h1,D0 h2,h3];simp
def cutB (s:ByteArray) (c:UInt8):ByteArray×ByteArray×Bool:=
 if(Gs.upto c s.data.toList).length=s.size then(s,⟨#[]⟩,false)else(s.extract 0 (Gs.upto c s.data.toList).length,s.extract ((Gs.upto c s.data.toList).length+1) s.size,true)
def CutR (x:ByteArray×ByteArray×Bool) (w:World) (e:Ending) (w':World):Prop:=e=.returned (.tuple #[.string x.1,.string x.2.1,.bool x.2.2])∧Ext w w'
theorem mR (s:ByteArray) (c:UInt8) (hs:s.size<=1000000) (w:World):
 Calls prog 95 #[.string s,.string ⟨#[c]⟩] w (CutR (cutB s c) w):=by
 have HI:=B0 (Tryz.stringslite_Index_one s c w)
 rw[kO]at HI
 have HB:=B0 (cutB.eq_1 s c)
 have hle:=OC c s.data.toList
 rw[Za]at hle HI
 generalize cutB s c=res at*
 generalize(Gs.upto c s.data.toList).length=n at*
 by_cases h:n=s.size
 ·rw[G0 h]at HI HB;clear h hle;go_enter func95,ntmps95;go_wp2_with fail;refine HI.out.mono ?_;rintro e w1 ⟨rfl,rfl⟩;go_wp2;go_ret3;rw[HB.out];exact⟨rfl,Ext.refl _⟩
 ·rw[D0 h]at HI HB;obtain⟨m,hm⟩:∃m,m=n+1:=⟨_,rfl⟩;rw[<-hm]at HB;have hni:(n:Int)+1=(m:Int):=C0;have hms:m<=s.size:=C0;have h0:(0:Int)<=(n:Int):=C0;have HM:=B0 hm;clear h hm;go_enter func95,ntmps95;go_wp2_with fail;refine HI.out.mono ?_;rintro e w1 ⟨rfl,rfl⟩;go_wp2;go_quiet (fail);go_wp2;go_ret3;rw[HB.out];exact U5
theorem kP (s:ByteArray) (c:UInt8) (hs:s.size<=1000000) (w:World):
 Calls prog 55 #[.string s,.string ⟨#[c]⟩] w (CutR (cutB s c) w):=by
 have HI:=B0 (mR s c hs w)
 generalize cutB s c=res at*
 obtain⟨r1,r2,r3⟩:=res
 go_enter func55,ntmps55
 go_wp2_with fail
 refine HI.out.mono ?_
 rintro e w1 ⟨rfl,hx1⟩
 dsimp only
 go_wp2
 go_ret3
 exact⟨rfl,hx1⟩
def ElsR (r:List Gs.El×Int) (w:World) (e:Ending) (w':World):Prop:=∃v,e=.returned (.tuple #[v,.int .i64 r.2])∧ESl w' v r.1∧Ext w w'
theorem ElsR.err (c:Int) {w w':World} (h:Ext w w'):ElsR ([],c) w (.returned (.tuple #[.slice none 0 0,.int .i64 c])) w':=⟨_,rfl,.inl ⟨rfl,_,_,rfl⟩,h⟩
theorem mT {n:Nat} {b:UInt8} {r:List UInt8} {acc:List Gs.El} (hl:(b::r).length<=n):
 (b≠40->Gs.parseF n (b::r) acc=([],9))∧
 (b=40->(Gs.upto 41 r).length=r.length->Gs.parseF n (b::r) acc=([],9))∧
 (b=40->(Gs.upto 41 r).length≠r.length->Gs.ver (Gs.upto 41 r) (Gs.upto 40 (r.drop ((Gs.upto 41 r).length+1)))≠0->Gs.parseF n (b::r) acc=([],Gs.ver (Gs.upto 41 r) (Gs.upto 40 (r.drop ((Gs.upto 41 r).length+1)))))∧
 (b=40->(Gs.upto 41 r).length≠r.length->Gs.ver (Gs.upto 41 r) (Gs.upto 40 (r.drop ((Gs.upto 41 r).length+1)))=0->Gs.parseF n (b::r) acc=Gs.parseF (n-1) ((r.drop ((Gs.upto 41 r).length+1)).drop (Gs.upto 40 (r.drop ((Gs.upto 41 r).length+1))).length) (acc++[(Gs.upto 41 r,Gs.upto 40 (r.drop ((Gs.upto 41 r).length+1)))])):=by
 obtain⟨m,rfl⟩:∃m,n=m+1:=⟨n-1,by simp at hl;omega⟩
 refine⟨fun h=> ?_,fun h1 h2=> ?_,fun h1 h2 h3=> ?_,fun h1 h2 h3=> ?_⟩
 ·simp only[Gs.parseF];rw[G0 h]
 ·simp only[Gs.parseF];rw[D0 (by simp[h1]),G0 h2]
 ·simp only[Gs.parseF];rw[D0 (by simp[h1]),D0 h2,G0 h3]
 ·simp only[Gs.parseF];rw[D0 (by simp[h1]),D0 h2,D0 (by simpa using h3)];rfl
end
end Go.Proofs.YtbngggoccndefaaGreatDoor
