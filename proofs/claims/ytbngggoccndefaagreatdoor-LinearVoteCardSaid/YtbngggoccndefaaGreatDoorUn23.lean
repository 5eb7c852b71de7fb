/-
  Laid.
-/
import Derived.Test.YtbngggoccndefaaGreatDoorUn11
import Derived.Test.YtbngggoccndefaaGreatDoorUn22
set_option maxHeartbeats 16000000
set_option maxRecDepth 100000
set_option linter.all false
namespace Go.Proofs.YtbngggoccndefaaGreatDoor
open Go.Proofs.Tryz
section
open Go.RowKit
def clsW (ws:List Bool):List Int:=ws.map fun b=>if b then 3 else 1
theorem Zh0 {fn:Func} {p:Tmp} {ty:TypeId} (h:fn.results= #[.cell p ty]) (tmps:Array Value) (P:Program) (w:World):
 (results fn tmps).run P w=((asAddr (tmps.getD p undef)).run P w).andThen fun a w₁=>(loadVar ty a).run P w₁:=by
 simp only[results,h]
 simp[OH,Result.andThen]
theorem ZgI {fn:Func} {p:Tmp} (h:fn.results= #[.cell p 126]) {tmps:Array Value} {w:World} {g:Nat} {t:TypeId} {x y:Value}
 (hp:tmps.getD p undef=.pointer (some ⟨g,0,none⟩)) (hg:w.heap[g]? =some (.cells #[x,y] t (0,0))):
 (results fn tmps).run prog w=.ok (.agg #[x,y]) w:=by
 rw[Zh0 h,hp]
 simp only[asAddr,SE,SF]
 rw[LG w g t _ #[x,y] (0,0) _ hg underlying126 rfl G0]
theorem TA {w:World} {b:Nat} {x y:Value} {t:TypeId} (h:w.heap[b]? =some (.cells #[x,y] t (0,0))):
 b<w.heap.size∧w.cell? ⟨b,0,none⟩=some x∧w.cell? ⟨b,1,none⟩=some y∧w.frozen? ⟨b,0,none⟩=false∧w.frozen? ⟨b,1,none⟩=false:=
 ⟨(O3.1 h).1,Zw h rfl,Zw h rfl,ZG h,ZG h⟩
theorem DX {l:List Int} {x:Int} {i n:Nat} (hn:l.length=n) (h:l[i]? =some x):(l.take i++List.replicate (n-i) (0:Int)).set i x=l.take (i+1)++List.replicate (n-(i+1)) 0:=gZ hn h
def Zov (l:List Int) (t:Int) (w:World) (e:Ending) (w':World):Prop:=∃a c,e=.returned (.agg #[.slice a l.length c,.int .i64 t])∧Own 3 w' w.heap.size (.slice a l.length c) (l.map encI)∧Ext w w'
theorem ZfC (v:Value) (bs:List Bool) (w:World) (hv:Sl w v (bs.map encT)) (hl:bs.length<=400000):
 Calls prog 155 #[v] w (Zov (clsW bs) (Rn.sum (clsW bs)) w):=by
 obtain⟨a,c,rfl⟩:=hv.form
 rw[J0]at hv⊢
 obtain⟨n,hn⟩:∃n,n=bs.length:=⟨_,rfl⟩
 rw[<-hn]at hv hl⊢
 have HN:=A0 hn
 have HV:=A0 hv
 obtain⟨L,hL⟩:∃L,L=clsW bs:=⟨_,rfl⟩
 rw[<-hL]
 have hLl:L.length=n:=by rw[hL,clsW,J0,hn]
 have HLL:=A0 hLl
 have HL:Hid (∀(j:Nat) (b:Bool),bs[j]? =some b->L[j]? =some (if b then(3:Int)else 1)):=A0 (fun j b h=>by rw[hL,clsW,J2,h];rfl)
 clear hv hn hL hLl
 obtain⟨w0,hw0⟩:∃w0,w0=w.alloc (.cells #[.slice none 0 0,.int .i64 0] 126):=⟨_,rfl⟩
 have hX0:Ext w w0:=by rw[hw0];exact(Ext.refl w).alloc _
 have hR0:w0.heap[w.heap.size]? =some (.cells #[.slice none 0 0,.int .i64 0] 126 (0,0)):=by rw[hw0];exact OM
 have hS0:w0.heap.size=w.heap.size+1:=by rw[hw0];simp
 obtain⟨wm,hmk,hOm,hXm⟩:=RU w0 n (w.heap.size+1) B0 B0
 have hgl:w0.heap.size<wm.heap.size:=(U5 hOm _ rfl).2
 have HOm:=A0 hOm
 have HXm:=A0 (hX0.trans hXm)
 have HRm:=A0 (Ze hR0 hXm)
 rw[hS0]at hmk HOm hgl
 rw[hw0]at hmk
 have HGL:=A0 hgl
 clear hX0 hR0 hS0 hOm hXm hgl hw0
 go_enter func155,ntmps155
 go_wp2_with fail
 go_loopw [12] (fun t wr=>∃(j:Nat) (tot:Int),j<=n∧t=.int .i64 (j:Int)∧0<=tot∧tot<=3*(j:Int)∧Hid (tot=Rn.sum (L.take j))∧Hid (wr.heap[w.heap.size]? =some (.cells #[.slice none 0 0,.int .i64 0] 126 (0,0)))∧Hid (wr.heap[wm.heap.size]? =some (.cells #[.slice (some ⟨w.heap.size+1,0,none⟩) n n,.int .i64 tot] 126 (0,0)))∧Hid (Own 3 wr (w.heap.size+1) (.slice (some ⟨w.heap.size+1,0,none⟩) n n) ((L.take j++List.replicate (n-j) (0:Int)).map encI))∧Hid (Ext w wr)) (fun t _=>n-(intOf t).toNat)
 case atStart=>exact⟨0,0,O0 _,rfl,by decide,by decide,A0 rfl,A0 (Ze HRm.out ((Ext.refl _).alloc _)),A0 (L2 wm _),A0 (HOm.out.alloc _),A0 (HXm.out.alloc _)⟩
 case round=>
 clear HOm HXm HRm hmk
 obtain⟨j,tot,hj,rfl,ht0,ht1,HT,HR,HB,HO,HX⟩:=hrel
 have hgl:=HGL.out
 have hrl:=(O3.1 HB.out).1
 have hgr:w.heap.size+1<wr.heap.size:=by omega
 by_cases hlt:j<n
 ·obtain⟨b,hbj⟩:∃b,bs[j]? =some b:=⟨_,M0 J4⟩
  obtain⟨bb,o,ha,hb,hc⟩:=HV.out.bool_at HX.out hbj
  subst ha
  have hjI:(j:Int)<(n:Int):=by omega
  have hLj:=HL.out j b hbj
  obtain⟨-,e0,e1,e2,e3⟩:=TA HB.out
  have hlen:(L.take j++List.replicate (n-j) (0:Int)).length=n:=by rw[T0,M1,D3,HLL.out];omega
  obtain⟨xo,co,fo⟩:=HO.out.intAt (i:=j) (by rw[hlen];exact hlt)
  have hn1:wm.heap.size≠w.heap.size+1:=by omega
  have hn2:w.heap.size+1≠wm.heap.size:=by omega
  have hn3:wm.heap.size≠w.heap.size:=by omega
  have hn4:w.heap.size+1≠w.heap.size:=by omega
  have hbn:bb≠w.heap.size+1:=by omega
  have hbn2:bb≠wm.heap.size:=by omega
  have HX9:=A0 HX.out
  cases b with
  |true=>rw[D0 rfl]at hLj;have hO9:=((HO.out.putI j 1).1.putI j 3).1;rw[List.set_set,DX HLL.out hLj]at hO9;have hT9:tot+3=Rn.sum (L.take (j+1)):=bM;have HO9:=A0 hO9;have HT9:=A0 hT9;clear hO9 hT9 hLj hbj;go_wp2_with fail;go_region;go_wp2_with fail;go_roundw;(case rel=>exact⟨j+1,tot+3,by omega,by go_num,by omega,by omega,HT9,A0 (Zs hn3 (Zs hn4 (Zs hn4 HR.out))),A0 (Zp (Zs hn2 (Zs hn2 HB.out))),A0 (HO9.out.set (Zs hn2 (Zs hn2 HB.out)) I0 _ _),A0 (((HX.out.setCell (p:=⟨w.heap.size+1,j,none⟩) (A4 _) _).setCell (p:=⟨w.heap.size+1,j,none⟩) (A4 _) _).setCell (p:=⟨wm.heap.size,1,none⟩) (by show w.heap.size<=wm.heap.size;omega) _).drew⟩);case measure=>exact C1
  |false=>rw[C0 I0]at hLj;have hO9:=(HO.out.putI j 1).1;rw[DX HLL.out hLj]at hO9;have hT9:tot+1=Rn.sum (L.take (j+1)):=bM;have HO9:=A0 hO9;have HT9:=A0 hT9;clear hO9 hT9 hLj hbj;go_wp2_with fail;go_region;go_wp2_with fail;go_roundw;(case rel=>exact⟨j+1,tot+1,by omega,by go_num,by omega,by omega,HT9,A0 (Zs hn3 (Zs hn4 HR.out)),A0 (Zp (Zs hn2 HB.out)),A0 (HO9.out.set (Zs hn2 HB.out) I0 _ _),A0 ((HX.out.setCell (p:=⟨w.heap.size+1,j,none⟩) (A4 _) _).setCell (p:=⟨wm.heap.size,1,none⟩) (by show w.heap.size<=wm.heap.size;omega) _).drew⟩);case measure=>exact C1
 ·obtain rfl:n=j:=B0;have hO:=HO.out;rw[I4,UR,P3,X1 (by rw[HLL.out];exact K0 _)]at hO;have hT:=HT.out;rw[X1 (by rw[HLL.out];exact K0 _)]at hT;have HK:=A0 hO;have HT9:=A0 hT;obtain⟨-,e0,e1,e2,e3⟩:=TA HB.out;obtain⟨-,d0,d1,d2,d3⟩:=TA HR.out;clear hO hT hlt hj;go_wp2_with fail;refine E1 (ZgI results155 rfl (Zp (Zp HR.out))) rfl ?_;rw[HT9.out];refine⟨_,n,by rw[HLL.out],?_,(HX.out.setCell (p:=⟨w.heap.size,0,none⟩) (K0 _) _).setCell (p:=⟨w.heap.size,1,none⟩) (K0 _) _⟩;rw[HLL.out];exact((HK.out.set HR.out I0 _ _).set (Zp HR.out) I0 _ _).mono (A4 _)
abbrev Cd:=(Option Addr×Nat×Nat)×Int
def cdV (x:Cd):Value:=.slice x.1.1 x.1.2.1 x.1.2.2
def cdC (xs:List Cd):List Value:=xs.flatMap fun x=>[cdV x,.int .i64 x.2]
theorem ZkA (xs:List Cd) (x:Cd):cdC (xs++[x])=cdC xs++[cdV x,.int .i64 x.2]:=by simp[cdC]
theorem Zn1 (xs:List Cd):∀(i:Nat) (x:Cd),xs[i]? =some x->(cdC xs)[i*2]? =some (cdV x)∧(cdC xs)[i*2+1]? =some (.int .i64 x.2):=by
 induction xs with
 |nil=>intro i x h;simp at h
 |cons y ys ih=>
  intro i x h
  cases i with
  |zero=>simp only[B3,I2]at h;subst h;exact⟨rfl,rfl⟩
  |succ i=>rw[D5]at h;have:=ih i x h;have e1:(i+1)*2=i*2+1+1:=B0;rw[e1];simp only[cdC,F8,J3,P5,D5]at this⊢;exact F3
def COwn (w:World) (B:Nat) (v:Value) (xs:List Cd):Prop:=w.ownsRow B 126 2 v xs.length (cdC xs)
section
variable {w w':World} {B:Nat} {v:Value} {xs:List Cd}
theorem COwn.ext (h:COwn w B v xs) (hx:Ext w w'):COwn w' B v xs:=by
 refine XI h hx.asGrown ?_
 cases hv:v.ownBlock with
 |none=>exact .inl rfl
 |some k=>exact .inr L0
theorem COwn.low (h:COwn w B v xs):∀k,v.ownBlock=some k->B<=k:=fun k hk=>(U5 h k hk).1
theorem Own.apart {T2:TypeId} {k n:Nat} {T:TypeId} {w:World} {B B2:Nat} {v v2:Value} {xs ys:List Value} (h:Own T w B v xs) (h2:w.ownsRow B2 T2 k v2 n ys) (hne:T≠T2):v.ownBlock=none∨v.ownBlock≠v2.ownBlock:=by
 rcases h.2 with⟨h1,_⟩|⟨g,cap,cur,h1,_,hg,_⟩;·exact .inl SN
 rcases h2.2 with⟨h3,_⟩|⟨g2,cap2,cur2,h3,_,hg2,_⟩;·exact .inr (by rw[h1,h3];simp[Value.ownBlock])
 ·refine .inr (fun e=> ?_);rw[h1,h3]at e;simp only[Value.ownBlock,I2]at e;subst e;rw[hg]at hg2;injection hg2 with hg2;injection hg2 with _ hg2;exact hne hg2
end
def ZQ (w:World) (xs:List Cd) (ls:List (List Int)):Prop:=xs.length=ls.length∧∀(i:Nat) (x:Cd) (l:List Int),xs[i]? =some x->ls[i]? =some l->x.2=Rn.sum l∧x.1.2.1=l.length∧Own 3 w 0 (cdV x) (l.map encI)
theorem ZQ.ext {w w':World} {xs:List Cd} {ls:List (List Int)} (h:ZQ w xs ls) (hx:Ext w w'):ZQ w' xs ls:=
 ⟨h.1,fun i x l h1 h2=>⟨(h.2 i x l h1 h2).1,(h.2 i x l h1 h2).2.1,(h.2 i x l h1 h2).2.2.ext hx⟩⟩
theorem ZQ.grown {w w':World} {B:Nat} {v:Value} {xs ys:List Cd} {ls:List (List Int)} (h:ZQ w xs ls) (ho:COwn w B v ys) (hg:w.grownBy w' v.ownBlock):ZQ w' xs ls:=
 ⟨h.1,fun i x l h1 h2=>⟨(h.2 i x l h1 h2).1,(h.2 i x l h1 h2).2.1,(h.2 i x l h1 h2).2.2.kept hg ((h.2 i x l h1 h2).2.2.apart ho I0)⟩⟩
theorem ZQ.snoc {w:World} {xs:List Cd} {ls:List (List Int)} (h:ZQ w xs ls) {x:Cd} {l:List Int} (h1:x.2=Rn.sum l) (h2:x.1.2.1=l.length) (h3:Own 3 w 0 (cdV x) (l.map encI)):ZQ w (xs++[x]) (ls++[l]):=by
 refine⟨by rw[T0,T0,h.1];rfl,fun i y k hy hk=> ?_⟩;by_cases hi:i<xs.length;·rw[O7 hi]at hy;rw[O7 (by rw[<-h.1];exact hi)]at hk;exact h.2 i y k hy hk
 ·have hlt:=(I1.1 hy).1;rw[T0,YS]at hlt;obtain rfl:i=xs.length:=B0;rw[M9 (K0 _),I4]at hy;rw[h.1,M9 (K0 _),I4]at hk;simp only[B3,I2]at hy hk;subst hy hk;exact⟨h1,h2,h3⟩
theorem ZQ.one {w:World} {x:Cd} {l:List Int} (h1:x.2=Rn.sum l) (h2:x.1.2.1=l.length) (h3:Own 3 w 0 (cdV x) (l.map encI)):ZQ w [x] [l]:=
 ZQ.snoc (xs:=[]) (ls:=[]) ⟨rfl,fun i x l h=>by simp at h⟩ h1 h2 h3
def CSl (w:World) (v:Value) (ls:List (List Int)):Prop:=∃b c xs,v=.slice (some ⟨b,0,none⟩) ls.length c∧b<w.heap.size∧ZQ w xs ls∧∀(i:Nat) (x:Cd),xs[i]? =some x->w.cell? ⟨b,i*2,none⟩=some (cdV x)∧w.cell? ⟨b,i*2+1,none⟩=some (.int .i64 x.2)
theorem CSl.of {w:World} {B:Nat} {v:Value} {xs:List Cd} {ls:List (List Int)} (h:COwn w B v xs) (hh:ZQ w xs ls) (hne:ls≠ []):CSl w v ls:=by
 rcases h.2 with⟨_,h0⟩|⟨g,cap,cur,hv,hbase,hb,h1,h2,h3,h4⟩;·exact absurd (L4 (by rw[<-hh.1];exact h0)) hne
 ·refine⟨g,cap,xs,by rw[hv,hh.1],(O3.1 hb).1,hh,fun i x hi=> ?_⟩;have hc:=h;unfold COwn at hc;rw[hv]at hc;have hil:=(I1.1 hi).1;rw[hc.cellAt (i*2) B0,hc.cellAt (i*2+1) B0];exact Zn1 xs i x hi
theorem ZjA:(prog.info? 126).map (fun i=>(i.zero,i.size,i.bytes))=some (some (.agg #[.slice none 0 0,.int .i64 0]),2,32):=B1
theorem bR {w:World} {ops:Array Oper} {rest:List Oper} {o:Oper} {a:Act} {Q:Exit->Act->World->Prop} (hgd:o.guard=none) (s x:Operand)
 (ho:o.op=.call {callee:=.builtin .append,args:= #[s,x],argTypes:= #[123,123]})
 (B:Nat) (v:Value) (xs:List Cd) (hs:a.eval s=v) (hown:COwn w B v xs) (b:Nat) (u:Cd) (hx:a.eval x=.slice (some ⟨b,0,none⟩) 1 1)
 (hc:w.cell? ⟨b,0,none⟩=some (cdV u)) (hc1:w.cell? ⟨b,1,none⟩=some (.int .i64 u.2)) (hn:xs.length<=999999999) (hB:B<=w.heap.size)
 (h:∀v' w',COwn w' B v' (xs++[u])->w.grownBy w' v.ownBlock->wpList prog ops Q rest (a.put o.dst v') w'):wpList prog ops Q (o::rest) a w:=by
 obtain⟨i0,hi,hz0,hz1,hz2⟩:=V5 ZjA
 refine VG _ hgd s x 123 ho B 126 i0 _ 2 32 underlying123 hi hz0 hz1 hz2 rfl I0 v xs.length (cdC xs) hs hown ⟨b,0,none⟩ 1 1 [cdV u,.int .i64 u.2] hx rfl ?_ ?_ ?_ ?_ hB ?_
 ·intro j u' hj
  rw[VF]
  match j with
  |0=>simp only[B3,I2]at hj;subst hj;exact hc
  |1=>simp only[D5,B3,I2]at hj;subst hj;exact hc1
  |j+2=>simp at hj
 ·exact bP
 ·exact V7
 ·exact bQ
 ·intro v' w' h1 h2 _;refine h v' w' ?_ h2;unfold COwn;rw[T0,ZkA];exact h1
theorem COwn.one {w:World} {B g:Nat} {x:Cd} (hg:w.heap[g]? =some (.cells #[cdV x,.int .i64 x.2] 126 (0,0))) (hB:B<=g):COwn w B (.slice (some ⟨g,0,none⟩) 1 1) [x]:=
 ⟨rfl,.inr ⟨g,1,_,rfl,hB,hg,K0 _,by unfold Go.maxLen;omega,rfl,rfl⟩⟩
theorem bT (ws:List Int):∀(l:List Int) (t:Int),Ln.quants ws (l++[t])=Ln.quants ws l++(if(Rn.quant ws t).2=0 then [(Rn.quant ws t).1]else [])
 | [],t=>by simp[Ln.quants]
 |x::l,t=>by rw[J3,Ln.quants,Ln.quants,bT ws l t,M3]
def CanL (w:World) (ws D T:List Int) (v12 vl ti:Value) (wr:World):Prop:=∃(j:Nat) (xs:List Cd),j<=T.length∧ti=.int .i64 (j:Int)∧xs.length<=j+1∧Hid (COwn wr w.heap.size vl xs)∧Hid (ZQ wr xs (D::Ln.quants ws (T.take j)))∧Hid (Own 3 wr w.heap.size v12 (T.map encI))∧Hid (Ext w wr)
def CanM (w:World) (D T:List Int) (x:Cd) (wa:World) (s12:Value) (wx:World):Prop:=
 Own 3 wx (wa.heap.size+1) s12 (T.map encI)∧COwn wx w.heap.size (.slice (some ⟨wa.heap.size,0,none⟩) 1 1) [x]∧Own 3 wx 0 (cdV x) (D.map encI)∧Ext w wx
theorem CanM.grow {w wa wx w5:World} {D T:List Int} {y:Int} {x:Cd} {s v':Value} (h:CanM w D T x wa s wx) (h5:Own 3 w5 (wa.heap.size+1) v' ((T++[y]).map encI)) (hg:wx.grownBy w5 s.ownBlock)
 (hx:∀k,(cdV x).ownBlock=some k->k<wa.heap.size):CanM w D (T++[y]) x wa v' w5:=by
 obtain⟨h1,h2,h3,h4⟩:=h
 have hlow:=h1.low
 refine⟨h5,XI h2 hg (.inr fun e=> ?_),h3.kept hg ?_,h4.ofGrown hg fun k hk=> ?_⟩
 ·have:wa.heap.size+1<=wa.heap.size:=hlow _ e.symm;omega
 ·cases hb:(cdV x).ownBlock with
  |none=>exact .inl rfl
  |some k=>refine .inr fun e=> ?_;have h6:=hx k hb;have h7:=hlow k e.symm;omega
 ·have h6:=hlow k hk;have h7:w.heap.size<=wa.heap.size:=h2.low _ rfl;omega
theorem bU (ws:List Int):(Tw.wide ws).1.length<=ws.length:=by
 unfold Tw.wide
 split
 ·exact O0 _
 split
 ·exact O0 _
 repeat' (first|split|(dsimp only))
 all_goals simp
theorem Zf9 (v:Value) (ws:List Int) (w:World) (hv:Sl w v (ws.map encI)) (hne:ws≠ []) (hl:ws.length<=65536) (hw:∀x∈ws,1<=x∧x<=65536):
 Calls prog 86 #[v] w fun e w'=>∃u,e=.returned u∧CSl w' u (Ln.cands ws)∧Ext w w':=by
 have HUN:=A0 (fun w' (h:Ext w w')=>Zmc v ws w' (hv.ext h) B0 hw)
 have HQN:=A0 (fun t w' (h:Ext w w') (ht:t<=1000000000)=>Zhw v ws t w' (hv.ext h) B0 ht)
 have HWD:=A0 (fun w' (h:Ext w w')=>uC v ws w' (hv.ext h) B0)
 obtain⟨hu1,hud⟩:=Rn.unit_is (fun x hx=>(hw x hx).1) hne
 have hsu:=Rn.sum_unit (fun x hx=>(hw x hx).1) hne
 have hpos:1<=ws.length:=T6.2 hne
 have hsb:=Rn.sum_in hw
 have HCA:=A0 (show Ln.cands ws=(ws.map fun x=>x/Rn.unit ws)::(Ln.quants ws (Ln.totals ws.length)++Ln.wides ws)from rfl)
 have HWI:=A0 (show Ln.wides ws=if(Tw.wide ws).2=0 then [clsW (Tw.wide ws).1]else []from rfl)
 obtain⟨res,hres⟩:∃res,res=Ln.cands ws:=⟨_,rfl⟩
 rw[<-hres]at HCA⊢
 obtain⟨U,hU⟩:∃U,U=Rn.unit ws:=⟨_,rfl⟩
 rw[<-hU]at HUN hu1 hud hsu HCA
 obtain⟨SM,hSM⟩:∃SM,SM=Rn.sum ws:=⟨_,rfl⟩
 rw[<-hSM]at hsu hsb
 obtain⟨D,hD⟩:∃D,D=ws.map fun x=>x/U:=⟨_,rfl⟩
 rw[<-hD]at HCA hsu
 have hDl:D.length=ws.length:=by rw[hD,J0]
 have HDA:Hid (∀(j:Nat) (x:Int),ws[j]? =some x->D[j]? =some (x/U)):=A0 (fun j x h=>by rw[hD,J2,h];rfl)
 obtain⟨a,c,rfl⟩:=hv.form
 rw[J0]at hv HUN HQN HWD⊢
 obtain⟨n,hn⟩:∃n,n=ws.length:=⟨_,rfl⟩
 rw[<-hn]at hv hl HUN HQN HWD HCA hDl hpos⊢
 have HN:=A0 hn
 have HV:=A0 hv
 have HS:=A0 hSM
 have HIN:=A0 hw
 have HDL:=A0 hDl
 have hs0:=hsb.1
 have hs1:SM<=4294967296:=I8
 have zU:(U==0)=false:=N0.2 B0
 have hU0:U≠0:=by omega
 have hDn:D≠ []:=fun e=>by rw[e]at hDl;simp at hDl;omega
 have HDN:=A0 hDn
 obtain⟨SD,hSD⟩:∃SD,SD=SM/U:=⟨_,rfl⟩
 have HSD:Hid (SD=Rn.sum D):=A0 (by rw[hSD];exact hsu)
 have hsd0:0<=SD:=by rw[hSD];exact WL hs0 B0
 have hsd1:SD<=4294967296:=by rw[hSD];exact LQ (LR U hs0) hs1
 have hsde:=hSD.symm
 have hsdt:SM.tdiv U=SD:=by rw[hSD,O9 hs0]
 clear hv hw hne hn hSM hsb hres hU hD hDl hsu hud hDn hSD
 go_enter func86,ntmps86
 go_wp2_with fail
 go_loop [4,23] (fun s i=>∃(j:Nat) (t:Int),j<=n∧i=.int .i64 (j:Int)∧s=.int .i64 t∧0<=t∧t<=65536*(j:Int)∧Hid (t=Rn.sum (ws.take j))) (fun _ i=>n-(intOf i).toNat)
 case atStart=>exact UQ
 case round=>
 obtain⟨j,t,hj,rfl,rfl,ht0,ht1,HT⟩:=hrel
 by_cases hlt:j<n
 ·exact EQ
 obtain rfl:n=j:=by omega
 obtain rfl:t=SM:=by have h2:=HT.out;exact bV
 clear hj hlt HT ht0 ht1
 go_wp2_with fail
 refine(HUN.out w (Ext.refl _)).mono ?_
 rintro e w1 ⟨rfl,hx1⟩
 have HX1:=A0 hx1
 obtain⟨wm,hmk,hOm,hXm⟩:=RU w1 n w1.heap.size B0 (K0 _)
 have HOm:=A0 hOm
 have HXm:=A0 hXm
 clear hOm hXm hx1
 go_wp2_with fail
 go_loopw [37] (fun t wr=>∃j:Nat,j<=n∧t=.int .i64 (j:Int)∧Hid (Own 3 wr w1.heap.size (.slice (some ⟨w1.heap.size,0,none⟩) n n) ((D.take j++List.replicate (n-j) (0:Int)).map encI))∧Hid (Ext w1 wr)) (fun t _=>n-(intOf t).toNat)
 case atStart=>exact MV
 case round=>
 clear HOm HXm hmk
 obtain⟨j,hj,rfl,HO,HX⟩:=hrel
 by_cases hlt:j<n
 ·obtain⟨x,hxj⟩:∃x,ws[j]? =some x:=⟨_,M0 J4⟩;obtain⟨b,o,ha,hb,hc⟩:=HV.out.int_at (HX1.out.trans HX.out) hxj;subst ha;have hjI:(j:Int)<(n:Int):=B0;obtain⟨hx1,hx2⟩:=HIN.out x (J1 hxj);have hlen:(D.take j++List.replicate (n-j) (0:Int)).length=n:=(by rw[T0,M1,D3,HDL.out];omega);obtain⟨xo,co,fo⟩:=HO.out.intAt (i:=j) (by rw[hlen];exact hlt);obtain⟨q,hq⟩:∃q,q=x/U:=⟨_,rfl⟩;have hq0:0<=q:=(by rw[hq];exact WL B0 B0);have hq1:q<=65536:=bW;have hqe:=hq.symm;have hqt:x.tdiv U=q:=(by rw[hq,O9 B0]);have hO9:=(HO.out.putI j q).1;rw[DX HDL.out (by rw[hq];exact HDA.out j x hxj)]at hO9;have HO9:=A0 hO9;clear hq hO9 hxj;go_wp2_with fail;go_roundw;(case rel=>exact⟨j+1,by omega,by go_num,HO9,A0 (HX.out.setCell (p:=⟨w1.heap.size,j,none⟩) (K0 _) _)⟩);case measure=>exact C1
 obtain rfl:n=j:=by omega
 have HO1:Hid (Own 3 wr w1.heap.size (.slice (some ⟨w1.heap.size,0,none⟩) n n) (D.map encI)):=A0 (by have h:=HO.out;rw[I4,UR,P3,X1 (by rw[HDL.out];exact K0 _)]at h;exact h)
 have HX2:=A0 (HX1.out.trans HX.out)
 rename World=>wa
 clear hj hlt HO HX
 have hsz:=HX2.out.size
 obtain⟨T1,hT1⟩:∃T:List Int,T=(if n=59 then [95]else if n=43 then [67]else if n=33 then [51]else []):=⟨_,rfl⟩
 obtain⟨T2,hT2⟩:∃T:List Int,T=(if 13<=n∧(n-7)%6=0 then [Ln.total11 n]else []):=⟨_,rfl⟩
 have HCA2:Hid (res=D::(Ln.quants ws (T1++T2)++Ln.wides ws)):=A0 (by rw[hT1,hT2];exact HCA.out)
 have HB1:Hid (∀x∈T1++T2,0<=x∧x<=1000000000):=A0 (by intro x hx;rcases B5.1 hx with h|h;(·rw[hT1]at h;(repeat' split at h)<;>simp at h<;>omega);·rw[hT2]at h;split at h;(·rw[U3]at h;unfold Ln.total11 at h;omega);·cases h)
 have HT1:=A0 hT1
 have HT2:=A0 hT2
 have hT1l:T1.length<=1:=by rw[hT1];(repeat' split)<;>simp
 have hT2l:T2.length<=1:=by rw[hT2];split<;>simp
 obtain⟨x0,hx0⟩:∃x:Cd,x=((some ⟨w1.heap.size,0,none⟩,n,n),SD):=⟨_,rfl⟩
 have HLV:Hid (∀k,(cdV x0).ownBlock=some k->k<wa.heap.size):=A0 (fun k hk=>by have h:=(U5 HO1.out _ rfl).2;rw[hx0]at hk;injection hk with hk;subst hk;exact h)
 obtain⟨wb,hwb⟩:∃wb,wb=wa.alloc (.cells #[.slice (some ⟨w1.heap.size,0,none⟩) n n,.int .i64 SD] 126):=⟨_,rfl⟩
 have HC5:Hid (COwn wb w.heap.size (.slice (some ⟨wa.heap.size,0,none⟩) 1 1) [x0]):=A0 (by rw[hwb,hx0];exact COwn.one (x:=((some ⟨w1.heap.size,0,none⟩,n,n),SD)) (L2 wa _) HX2.out.size)
 have HD5:Hid (Own 3 wb 0 (cdV x0) (D.map encI)):=A0 (by rw[hwb,hx0];exact(HO1.out.mono (O0 _)).alloc _)
 have HX5:Hid (Ext w wb):=A0 (by rw[hwb];exact HX2.out.alloc _)
 have HSB:Hid (wb.heap.size=wa.heap.size+1):=A0 (by rw[hwb];simp)
 have HX0:=A0 hx0
 have HWB:=A0 hwb
 clear hT1 hT2 hx0 hwb HCA
 have hlv:=HLV.out
 go_upto_block 4 with fail
 go_cut [12]from 19 (fun s12 wx=>Hid (CanM w D T1 x0 wa s12 wx))
 case first=>by_cases h59:n=59;(·have z59:((n:Int)==59)=true:=Y0.2 B0;have HTV:Hid (T1=[95]):=A0 (by rw[HT1.out,D0 h59]);clear h59;go_wp2_with (at_builtin;rw[<-HWB.out];refine Zq rfl _ _ rfl (wa.heap.size+1) _ [] rfl (Own.nil _ _ _) _ 95 rfl ?c1 ?c2 ?c3 ?_);(case c1=>rw[<-HSB.out];exact L3);(case c2=>simp);(case c3=>exact DZ);intro v' w5 hown5 hg5;have HM:Hid (CanM w D T1 x0 wa v' w5):=A0 (by rw[HTV.out];exact CanM.grow (T:=[]) (y:=95) ⟨Own.nil _ _ _,HC5.out.ext ((Ext.refl _).alloc _),HD5.out.alloc _,HX5.out.alloc _⟩ hown5 hg5 hlv);clear hown5 hg5;exact PJ);have z59:((n:Int)==59)=false:=N0.2 B0;by_cases h43:n=43;(·have z43:((n:Int)==43)=true:=Y0.2 B0;have HTV:Hid (T1=[67]):=A0 (by rw[HT1.out,C0 h59,D0 h43]);clear h43;go_wp2_with (at_builtin;rw[<-HWB.out];refine Zq rfl _ _ rfl (wa.heap.size+1) _ [] rfl (Own.nil _ _ _) _ 67 rfl ?c1 ?c2 ?c3 ?_);(case c1=>rw[<-HSB.out];exact L3);(case c2=>simp);(case c3=>exact DZ);intro v' w5 hown5 hg5;have HM:Hid (CanM w D T1 x0 wa v' w5):=A0 (by rw[HTV.out];exact CanM.grow (T:=[]) (y:=67) ⟨Own.nil _ _ _,HC5.out.ext ((Ext.refl _).alloc _),HD5.out.alloc _,HX5.out.alloc _⟩ hown5 hg5 hlv);clear hown5 hg5;exact PJ);have z43:((n:Int)==43)=false:=N0.2 B0;by_cases h33:n=33;(·have z33:((n:Int)==33)=true:=Y0.2 B0;have HTV:Hid (T1=[51]):=A0 (by rw[HT1.out,C0 h59,C0 h43,D0 h33]);clear h33;go_wp2_with (at_builtin;rw[<-HWB.out];refine Zq rfl _ _ rfl (wa.heap.size+1) _ [] rfl (Own.nil _ _ _) _ 51 rfl ?c1 ?c2 ?c3 ?_);(case c1=>rw[<-HSB.out];exact L3);(case c2=>simp);(case c3=>exact DZ);intro v' w5 hown5 hg5;have HM:Hid (CanM w D T1 x0 wa v' w5):=A0 (by rw[HTV.out];exact CanM.grow (T:=[]) (y:=51) ⟨Own.nil _ _ _,HC5.out.ext ((Ext.refl _).alloc _),HD5.out.alloc _,HX5.out.alloc _⟩ hown5 hg5 hlv);clear hown5 hg5;exact PJ);have z33:((n:Int)==33)=false:=N0.2 B0;have HTV:Hid (T1=[]):=A0 (by rw[HT1.out,C0 h59,C0 h43,C0 h33]);have HM:Hid (CanM w D T1 x0 wa (.slice none 0 0) wb):=A0 (by rw[HTV.out];exact⟨Own.nil _ _ _,HC5.out,HD5.out,HX5.out⟩);clear h59 h43 h33;go_wp2_with fail;rw[<-HWB.out];go_meet;case rel=>exact HM
 case rest=>
 have HM1:=hcut
 clear hcut HC5 HD5 HX5 HSB HWB HT1 hsz
 obtain⟨B2,hB2⟩:∃b:Bool,b=decide (13<=n∧(n-7)%6=0):=⟨_,rfl⟩
 have HB2:=A0 hB2
 clear hB2
 obtain⟨k,hk⟩:∃k,k=n-7:=⟨_,rfl⟩
 rw[<-hk]at HB2 HT2
 have HK:=A0 hk
 clear hk
 go_upto_region 24 with fail
 go_cut [78]from 19 (fun s78 wx=>s78=.bool B2∧wx=wc)
 case first=>by_cases h13:13<=n;(·have h13I:(13:Int)<=(n:Int):=B0;have hkI:(n:Int)-7=(k:Int):=TC;exact bX);·have h13I:¬(13:Int)<=(n:Int):=B0;exact bY
 case rest=>
 obtain⟨rfl,rfl⟩:=hcut
 go_upto_if 78 with fail
 go_cut [12]from 19 (fun s12 wx=>Hid (CanM w D (T1++T2) x0 wa s12 wx))
 case first=>
  cases B2 with
  |false=>have HM:Hid (CanM w D (T1++T2) x0 wa u12 wc):=A0 (by rw[HT2.out,C0 (K9 HB2.out.symm),P3];exact HM1.out);exact PJ
  |true=>obtain⟨h13,hk6⟩:=G6 HB2.out.symm;have hkI:(n:Int)-7=(k:Int):=TC;obtain⟨tt,htt⟩:∃tt:Nat,tt=(11*k)/6:=⟨_,rfl⟩;have hte:11*(k:Int)/6=(tt:Int):=B0;have htT:(11*(k:Int)).tdiv 6=(tt:Int):=(by rw[O9 B0,hte]);have HTV:Hid (T2=[(tt:Int)+13]):=A0 (by rw[HT2.out,D0 ⟨h13,hk6⟩,Ln.total11,hkI,hte]);have hkb:k<=65536:=TC;have htb:tt<=131072:=B0;have hm:=HM1.out;have hsz:=hm.2.2.2.size;have hcs:=(U5 hm.2.1 _ rfl).2;clear h13 hk6 htt;go_wp2_with (at_builtin;refine Zq rfl _ _ rfl (wa.heap.size+1) _ T1 rfl (hm.1.alloc _) _ ((tt:Int)+13) rfl ?c1 ?c2 ?c3 ?_);(case c1=>exact L3);(case c2=>omega);(case c3=>first|(simp;done)|(simp;omega)|omega);intro v' w5 hown5 hg5;have HM:Hid (CanM w D (T1++T2) x0 wa v' w5):=A0 (by rw[HTV.out];exact CanM.grow ⟨hm.1.alloc _,hm.2.1.ext ((Ext.refl _).alloc _),hm.2.2.1.alloc _,hm.2.2.2.alloc _⟩ F6 hg5 hlv);clear hown5 hg5 hm hsz hcs;exact PJ
 case rest=>
 have hm:=hcut.out
 clear hcut HM1 HT2 HB2 HK
 rw[HX0.out]at hm
 have HC5:Hid (COwn wc w.heap.size (.slice (some ⟨wa.heap.size,0,none⟩) 1 1) [((some ⟨w1.heap.size,0,none⟩,n,n),SD)]):=A0 hm.2.1
 have HH5:Hid (ZQ wc [((some ⟨w1.heap.size,0,none⟩,n,n),SD)] [D]):=A0 (ZQ.one HSD.out HDL.out.symm hm.2.2.1)
 have HX5:=A0 hm.2.2.2
 have HO5:=A0 (hm.1.mono (B':=w.heap.size) (B4 HX2.out.size (A4 _)))
 clear hm hlv
 obtain⟨T,hT⟩:∃T:List Int,T=T1++T2:=⟨_,rfl⟩
 obtain⟨L,hL⟩:∃L,T.length=L:=⟨_,rfl⟩
 rw[<-hT]at HCA2 HB1 HO5
 have HTB:=HB1
 have HCA5:=HCA2
 have HTL:=A0 hL
 obtain⟨A5,c5,rfl⟩:=HO5.out.sl.form
 rw[J0,hL]at HO5⊢
 have hLb:L<=2:=by rw[<-hL,hT,T0];have:T2.length<=1:=hT2l;omega
 clear hT hL HCA2 HB1 hT1l hT2l
 go_wp2_with fail
 go_loopw [11,89] (fun vl ti wr=>CanL w ws D T (.slice A5 L c5) vl ti wr) (fun _ t _=>L-(intOf t).toNat)
 case atStart=>exact⟨0,_,O0 _,rfl,by simp,HC5,by simpa[Ln.quants]using HH5,HO5,HX5⟩
 case round=>
 clear HC5 HH5 HO5 HX5
 obtain⟨j,xs,hj,rfl,hxl,HC,HH,HT,HX⟩:=hrel
 rw[HTL.out]at hj
 by_cases hlt:j<L
 ·obtain⟨x,hxj⟩:∃x,T[j]? =some x:=⟨_,M0 (by rw[HTL.out];exact hlt)⟩;obtain⟨hx0,hx1⟩:=HTB.out x (J1 hxj);obtain⟨xt,rfl⟩:∃xt:Nat,x=(xt:Int):=⟨x.toNat,by omega⟩;obtain⟨b,o,ha,hb,hc⟩:=HT.out.slk.1.int_at (Ext.refl wr) hxj;subst ha;have hjI:(j:Int)<L:=B0;have HQ9:=A0 (HQN.out xt wr HX.out B0);have HQS:=A0 (fun h=> @Rn.quant_sum ws (xt:Int) h);have HQU:Hid (Ln.quants ws (T.take (j+1))=Ln.quants ws (T.take j)++(if(Rn.quant ws (xt:Int)).2=0 then [(Rn.quant ws (xt:Int)).1]else [])):=A0 (by rw[Zz hxj,bT]);obtain⟨⟨ql,qe⟩,hqr⟩:∃r,r=Rn.quant ws (xt:Int):=⟨_,rfl⟩;rw[<-hqr]at HQ9 HQS HQU;dsimp only at HQU HQS;clear hqr hxj;go_wp2_with fail;refine HQ9.out.mono ?_;rintro e w2 ⟨u,rfl,hu,hx2⟩;dsimp only at hu⊢;obtain⟨-,au,cu,rfl,-⟩:=hu.slk;rw[J0]at hu⊢;have HU:=A0 hu;have HX2':=A0 (HX.out.trans hx2);have HC2:=A0 (HC.out.ext hx2);have HH2:=A0 (HH.out.ext hx2);have HT2:=A0 (HT.out.ext hx2);clear hu hx2 HC HH HT hc;by_cases hqe:qe=0;(·have hqs:=(HQS.out hqe).1;subst hqe;have hsz:=HX2'.out.size;have HQ3:Hid (Ln.quants ws (T.take (j+1))=Ln.quants ws (T.take j)++[ql]):=A0 (by rw[HQU.out,D0 rfl]);have hc2:=HC2.out;go_wp2_with (at_builtin;refine bR rfl _ _ rfl w.heap.size _ xs rfl (hc2.ext ((Ext.refl _).alloc _)) _ ((au,ql.length,cu),(xt:Int)) rfl ?ke1 ?ke4 ?ke2 ?ke3 ?_);(case ke1=>simp[go_sem,cdV]);(all_goals(try(case ke4=>simp[go_sem])));(case ke2=>omega);(case ke3=>exact Y2);intro v' w5 hown5 hg5;have HX9:=A0 ((HX2'.out.alloc _).ofGrown hg5 hc2.low);have HC9:=A0 hown5;have HT9:Hid (Own 3 w5 w.heap.size (.slice (some ⟨b,o,none⟩) L c5) (T.map encI)):=A0 ((HT2.out.alloc _).kept hg5 (Own.apart HT2.out hc2 I0));have HH9:Hid (ZQ w5 (xs++[((au,ql.length,cu),(xt:Int))]) (D::Ln.quants ws (T.take (j+1)))):=A0 (by rw[HQ3.out,<-J3];refine ZQ.snoc ((HH2.out.ext ((Ext.refl _).alloc _)).grown (hc2.ext ((Ext.refl _).alloc _)) hg5) hqs.symm rfl ?_;exact((HU.out.mono (O0 _)).alloc _).kept hg5 (Own.apart HU.out hc2 I0));have hxl9:(xs++[((au,ql.length,cu),(xt:Int))]).length<=j+1+1:=YQ;clear hown5 hg5 hc2 HX2' HC2 HH2 HT2 HU;go_wp2_with fail;go_roundw;(case rel=>exact⟨j+1,_,by rw[HTL.out];omega,by go_num,hxl9,HC9,HH9,HT9,HX9⟩);case measure=>exact C1);·have z:(qe==0)=false:=N0.2 hqe;have HH9:Hid (ZQ w2 xs (D::Ln.quants ws (T.take (j+1)))):=A0 (by rw[HQU.out,C0 hqe,P3];exact HH2.out);go_wp2_with fail;go_roundw;(case rel=>exact⟨j+1,_,by rw[HTL.out];omega,by go_num,by omega,HC2,HH9,HT2,HX2'⟩);case measure=>exact C1
 ·obtain rfl:j=L:=B0;have HH1:Hid (ZQ wr xs (D::Ln.quants ws T)):=A0 (by have h:=HH.out;rw[X1 (by rw[HTL.out];exact K0 _)]at h;exact h);have HW9:=A0 (HWD.out wr HX.out);clear HH HT hlt hj;go_wp2_with fail;refine HW9.out.mono ?_;rintro e w2 ⟨u,rfl,hu,hx2⟩;have HU:=A0 hu;have HX2':=A0 (HX.out.trans hx2);have HC2:=A0 (HC.out.ext hx2);have HH2:=A0 (HH1.out.ext hx2);clear hu hx2 HC HH1;have hwl:=bU ws;obtain⟨⟨wb,we⟩,hwr⟩:∃r,r=Tw.wide ws:=⟨_,rfl⟩;rw[<-hwr]at HU HWI hwl⊢;dsimp only at HU HWI hwl⊢;have hwl2:wb.length<=400000:=(by rw[<-HN.out]at hwl;omega);clear hwr hwl;by_cases hwe:we=0;(·subst hwe;have HF:Hid (res=(D::Ln.quants ws T)++[clsW wb]):=A0 (by rw[HCA5.out,HWI.out,D0 rfl];rfl);have HCL:=A0 (fun w' h=>ZfC u wb w' h hwl2);go_wp2_with fail;refine(HCL.out w2 HU.out).mono ?_;rintro e w3 ⟨a3,c3,rfl,hu3,hx3⟩;have HU3:=A0 hu3;have HX3:=A0 (HX2'.out.trans hx3);have HH3:=A0 (HH2.out.ext hx3);have hsz:=HX3.out.size;have hc2:=HC2.out.ext hx3;clear hu3 hx3 HX2' HC2 HH2;go_wp2_with (at_builtin;refine bR rfl _ _ rfl w.heap.size _ xs rfl (hc2.ext ((Ext.refl _).alloc _)) _ ((a3,(clsW wb).length,c3),Rn.sum (clsW wb)) rfl ?kd1 ?kd4 ?kd2 ?kd3 ?_);(case kd1=>simp[go_sem,cdV]);(all_goals(try(case kd4=>simp[go_sem])));(case kd2=>omega);(case kd3=>exact Y2);intro v' w5 hown5 hg5;have HX9:=A0 ((HX3.out.alloc _).ofGrown hg5 hc2.low);have HS9:Hid (CSl w5 v' res):=A0 (by rw[HF.out];refine CSl.of hown5 ?_ L0;refine ZQ.snoc ((HH3.out.ext ((Ext.refl _).alloc _)).grown (hc2.ext ((Ext.refl _).alloc _)) hg5) rfl rfl ?_;exact((HU3.out.mono (O0 _)).alloc _).kept hg5 (Own.apart HU3.out hc2 I0));clear hown5 hg5 hc2;go_wp2_with fail;go_ret;exact⟨_,rfl,HS9.out,HX9.out⟩);·have z:(we==0)=false:=N0.2 hwe;have HS9:Hid (CSl w2 _ res):=A0 (by rw[HCA5.out,HWI.out,C0 hwe,P3];exact CSl.of HC2.out HH2.out L0);go_wp2_with fail;go_ret;exact⟨_,rfl,HS9.out,HX2'.out⟩
end
section
open Go.RowKit Go.Maps Go Go.WideMaps Go.WideShapes
theorem ZjJ {P:Program} {k e:TypeId} {q:IntKind} (A:ArrKey P k e 6) (he:P.underlying e=some (.int q)) (hsz:∃m,P.types.size=m+1) {a b c d f g:Int} (wa:(Lit.int q a).wf=true) (wb:(Lit.int q b).wf=true) (wc:(Lit.int q c).wf=true) (wd:(Lit.int q d).wf=true) (wf:(Lit.int q f).wf=true) (wg:(Lit.int q g).wf=true):
 keyOf P k (.agg #[.int q a,.int q b,.int q c,.int q d,.int q f,.int q g])=some (.string (keyBytes [.int q a,.int q b,.int q c,.int q d,.int q f,.int q g])):=by
 have hkt:=A.keyType hsz
 obtain⟨m,hm⟩:=hsz
 unfold keyOf
 simp only[A.hu]
 rw[D0 (by simp[hkt,Value.formed,A.hu,A.size]),hm]
 unfold Program.keyLits
 simp only[A.hu,Value.cells]
 rw[D0 (by rw[A.size];rfl),show List.range 6=[0,1,2,3,4,5]from rfl,WM,WM,WM,WM,WM,WM,List.mapM_nil]
 simp[A.one,Program.keyLits,he,wa,wb,wc,wd,wf,wg]
def Cc.key (l:List Int):Value:=.agg (l.map encI).toArray
theorem Cc.key_inj (a b:List Int) (h:Cc.key a=Cc.key b):a=b:=by unfold Cc.key at h;injection h with h;have h:=List.toArray_inj h;exact(List.map_inj_right (fun x y e=>by unfold encI at e;injection e)).1 h
theorem Cc.arr6:ArrKey prog 172 3 6:=⟨underlying172,by kernel_rfl,by kernel_rfl,by kernel_rfl⟩
theorem Cc.laid:laidOutB prog=true:=B1
theorem Cc.keyed:Keyed prog 172:=
 Keyed.of_law (deep_law_laid Cc.laid (m:=2) B0 (G6 G0) G0 (by rw[underlying172]))
theorem Cc.wf_of {x:Int} (h: -1000000<=x∧x<=1000000):(Lit.int .i64 x).wf=true:=by simp[Lit.wf];have:IntKind.i64.min= -9223372036854775808:=rfl;omega
theorem Cc.keyOf_six' {l:List Int} (h6:l.length=6) (hb:∀x∈l,-1000000<=x∧x<=1000000):∃t,keyOf prog 172 (Cc.key l)=some t:=by
 match l,h6 with
 | [a,b,c,d,f,g],_=>exact⟨_,ZjJ Cc.arr6 underlying3 ⟨prog.types.size-1,by kernel_rfl⟩ (Cc.wf_of (hb a L0)) (Cc.wf_of (hb b L0)) (Cc.wf_of (hb c L0)) (Cc.wf_of (hb d L0)) (Cc.wf_of (hb f L0)) (Cc.wf_of (hb g L0))⟩
def Cc.fTo (n:Nat) (w:List Int):Option Int:=((Cc.pats.take n).findIdx? fun p=>p==w).map fun(i:Nat)=>(i:Int)
theorem Cc.fTo_zero:Cc.fTo 0=fun _=>none:=rfl
theorem Cc.fTo_all:Cc.fTo 106=fun w=>(Cc.valOf w).map fun(i:Nat)=>(i:Int):=rfl
theorem Cc.pats_nodup:Cc.pats.Nodup:=E2
theorem Cc.pats_len:Cc.pats.length=106:=rfl
theorem Cc.fTo_succ (n:Nat) (hn:n<106):Cc.fTo (n+1)=fun w=>if w=Cc.pats.getD n []then some (n:Int)else Cc.fTo n w:=by
 funext w;have hp:Cc.pats[n]? =some (Cc.pats.getD n []):=by rw[U0,M0 (by rw[Cc.pats_len];exact hn)];rfl
 obtain⟨p,hpp⟩:∃p,p=Cc.pats.getD n []:=⟨_,rfl⟩;rw[<-hpp]at hp⊢;have hnd:=Cc.pats_nodup;have ht:Cc.pats.take (n+1)=Cc.pats.take n++[p]:=by rw[N6,hp];rfl
 have hl:(Cc.pats.take n).length=n:=by rw[M1,Cc.pats_len];omega
 unfold Cc.fTo;rw[ht,List.findIdx?_append];by_cases hw:w=p;·subst hw;rw[D0 rfl];have hnot:(Cc.pats.take n).findIdx? (fun q=>q==w)=none:=(by rw[CA];intro x hx;refine N0.2 fun e=> ?_;subst e;have h2:(Cc.pats.take (n+1)).Nodup:=hnd.sublist (List.take_sublist _ _);rw[ht,List.nodup_append]at h2;exact h2.2.2 x hx x (U3.2 rfl) rfl);rw[hnot];simp[hl]
 ·rw[C0 hw];have:([p]:List (List Int)).findIdx? (fun q=>q==w)=none:=(by rw[CA];intro x hx;rw[U3]at hx;subst hx;exact N0.2 fun e=>hw e.symm);rw[this];simp
theorem Rn.mem_sum {l:List Int} (h:∀x∈l,1<=x):∀x∈l,x<=Rn.sum l:=by
 induction l with
 |nil=>intro x hx;cases hx
 |cons y l ih=>intro x hx;have h1:=h y (N2 ..);have h2:=Rn.sum_pos l (fun z hz=>h z (V2 _ hz));rw[Rn.sum_cons];rcases V3.1 hx with rfl|hx;(·omega);·have:=ih (fun z hz=>h z (V2 _ hz)) x hx;omega
theorem Rn.widths_in (s:List Bool):(∀x∈Rn.widths s,1<=x∧x<=(s.length:Int))∧(Rn.widths s).length<=s.length:=by have hp:=Rn.widths_pos s;have h1:=Rn.mods_len (Rn.widths s) true hp;rw[Rn.mods_widths]at h1;have h2:=Rn.core_le s;have h3:=Rn.sum_pos _ hp;exact⟨fun x hx=>⟨hp x hx,by have:=Rn.mem_sum hp x hx;omega⟩,by omega⟩
theorem Sl.range6 {w wr:World} {b o n c:Nat} {ws:List Int} (h:Sl w (.slice (some ⟨b,o,none⟩) n c) (ws.map encI)) (hx:Ext w wr) (i:Nat):wr.rangeAt b (o+i) (((ws.drop i).take 6).map encI):=by
 intro j v hj;rw[J2,W6]at hj;split at hj
 ·rw[RK]at hj
  cases hw:ws[i+j]? with
  |none=>rw[hw]at hj;cases hj
  |some x=>rw[hw]at hj;obtain⟨b',o',ha,_,hc⟩:=h.int_at hx hw;injection ha with ha;injection ha with h1 h2;subst h1 h2;rw[<-Nat.add_assoc]at hc;rw[hc];exact hj
 ·cases hj
theorem cB {w:World} {a:Option Addr} {c:Nat}:(Instr.arrayAt 172 (.slice a 6 c)).run prog w=.ok (.pointer a) w:=by unfold Instr.arrayAt;rw[OH,XR underlying172 w];rfl
end
section
open Go.RowKit
def RdR (o:Option Ln.Lin) (w:World) (e:Ending) (w':World):Prop:=
 ∃(x:Ln.Lin),e=.returned (.tuple #[linV x.1 x.2.1 x.2.2,.bool o.isSome])∧(o.isSome=true->o=some x)∧Ext w w'
theorem RdR.none {w w':World} (h:Ext w w'):RdR none w (.returned (.tuple #[.agg #[.int .i64 0,.string ⟨#[]⟩,.string ⟨#[]⟩],.bool false])) w':=⟨Ln.zero,rfl,(fun h=>by cases h),h⟩
theorem RdR.some {w w':World} {k:Int} {t:List UInt8} (h:Ext w w'):RdR (some (k,t,[])) w (.returned (.tuple #[.agg #[.int .i64 k,.string (Ea.bS t),.string ⟨#[]⟩],.bool true])) w':=⟨(k,t,[]),rfl,fun _=>rfl,h⟩
theorem I6 {w w':World} {o:Obj} {x y z:Value} {t:TypeId} (h:Ext ((w.alloc o).alloc (.cells #[x,y,z] t)) w'):w'.heap[w.heap.size+1]? =some (.cells #[x,y,z] t (0,0)):=
 Zv L0 h
theorem Zo {w w':World} {b:Nat} (h:Ext w w') (hb:w.heap.size<=b) (p q r:Value):Ext w (((w'.setCell ⟨b,0,none⟩ p).setCell ⟨b,1,none⟩ q).setCell ⟨b,2,none⟩ r):=((h.setCell hb _).setCell hb _).setCell hb _
theorem CM (kind:Int) (v:Value) (m:List Bool) (w:World) (hv:SlK w v (m.map encT)) (hm:m.length<=1000000):
 Calls prog 81 #[.agg #[v],.int .i64 kind] w (RdR (Ln.rTwo kind m) w):=by
 obtain⟨res,hres⟩:∃res,res=Ln.rTwo kind m:=⟨_,rfl⟩
 rw[<-hres]
 unfold Ln.rTwo at hres
 have HW:=A0 (fun w' (h:Ext w w')=>EP v m w' (hv.ext h) hm)
 have hwl:(Rn.widths m).length<=1000000:=B4 (Rn.widths_in m).2 hm
 obtain⟨ws,hws⟩:∃ws,ws=Rn.widths m:=⟨_,rfl⟩
 rw[<-hws]at HW hres hwl
 have HD:=A0 (fun v w' (h:Sl w' v (ws.map encI))=>ZgP kind v ws false w' h hwl)
 obtain⟨⟨t,er⟩,hd⟩:∃r,r=Tw.dec kind ws false:=⟨_,rfl⟩
 rw[<-hd]at HD hres
 have HR:=A0 hres
 obtain⟨-,a,c,rfl,-⟩:=hv
 rw[J0]at HW⊢
 generalize m.length=ml at*
 obtain⟨T,hT⟩:∃T,T=Ea.bS t:=⟨_,rfl⟩
 have HT:=A0 hT
 have HD2:Hid (∀v w',Sl w' v (ws.map encI)->Calls prog 21 #[.int .i64 kind,v,.bool false] w' fun e w''=>e=.returned (.tuple #[.string T,.int .i64 er])∧Ext w' w''):=A0 (fun v w' h=>by rw[hT];exact HD.out v w' h)
 clear hws hd hres hT HD
 by_cases he:er=0
 ·have HF:Hid (res=some (kind,t,[])):=A0 CN;subst he;clear HR;go_enter func81,ntmps81;go_wp2_with fail;refine(HW.out _ Xf).mono ?_;rintro e w1 ⟨u,rfl,hu,hx1⟩;have HU:=A0 hu;clear hu;go_wp2_with fail;refine(HD2.out u w1 HU.out.1).mono ?_;rintro e w2 ⟨rfl,hx2⟩;obtain⟨f0,f1,f2,f3,f4,f5,f6,f7⟩:=Zj (I6 (hx1.trans hx2));have hxw:=(hx1.trans hx2).before.before;clear hx1 hx2;go_wp2_with fail;refine E1 (Zi results81 rfl (Zk f7) rfl) rfl ?_;rw[HF.out];rw[HT.out];exact CO
 ·have HF:Hid (res=none):=A0 (by rw[HR.out,C0 he]);have z:(er !=0)=true:=(by simp[he]);have zd:decide (er=0)=false:=X0 he;clear HR he;go_enter func81,ntmps81;go_wp2_with fail;refine(HW.out _ Xf).mono ?_;rintro e w1 ⟨u,rfl,hu,hx1⟩;have HU:=A0 hu;clear hu;go_wp2_with fail;refine(HD2.out u w1 HU.out.1).mono ?_;rintro e w2 ⟨rfl,hx2⟩;obtain⟨f0,f1,f2,f3,f4,f5,f6,f7⟩:=Zj (I6 (hx1.trans hx2));have hxw:=(hx1.trans hx2).before.before;clear hx1 hx2;go_wp2_with fail;refine E1 (Zi results81 rfl (Zk f7) rfl) rfl ?_;rw[HF.out];exact CP
theorem Znk (v:Value) (m:List Bool) (w:World) (hv:SlK w v (m.map encT)) (hm:m.length<=1000000):
 Calls prog 36 #[.agg #[v]] w (RdR (Ln.rTwo 5 m) w):=by
 have HW:=A0 (fun w' (h:Ext w w')=>CM 5 v m w' (hv.ext h) hm)
 obtain⟨-,a,c,rfl,-⟩:=hv
 rw[J0]at HW⊢
 generalize m.length=ml at*
 generalize Ln.rTwo 5 m=res at*
 go_enter func36,ntmps36
 go_wp2_with fail
 refine(HW.out _ Xf).mono ?_
 rintro e w1 ⟨⟨k,t,ad⟩,rfl,ho,hx1⟩
 have HO:=A0 ho
 obtain⟨f0,f1,f2,f3,f4,f5,f6,f7⟩:=Zj (I6 hx1)
 have hxw:=hx1.before.before
 unfold linV
 dsimp only
 clear hx1 ho
 go_wp2_with fail
 refine E1 (Zi results36 rfl (Zk f7) rfl) rfl ?_
 exact⟨(k,t,ad),rfl,HO.out,Zo hxw (A4 _) _ _ _⟩
theorem ZlH (v:Value) (m:List Bool) (w:World) (hv:SlK w v (m.map encT)) (hm:m.length<=1000000):
 Calls prog 37 #[.agg #[v]] w (RdR (Ln.rTwo 6 m) w):=by
 have HW:=A0 (fun w' (h:Ext w w')=>CM 6 v m w' (hv.ext h) hm)
 obtain⟨-,a,c,rfl,-⟩:=hv
 rw[J0]at HW⊢
 generalize m.length=ml at*
 generalize Ln.rTwo 6 m=res at*
 go_enter func37,ntmps37
 go_wp2_with fail
 refine(HW.out _ Xf).mono ?_
 rintro e w1 ⟨⟨k,t,ad⟩,rfl,ho,hx1⟩
 have HO:=A0 ho
 obtain⟨f0,f1,f2,f3,f4,f5,f6,f7⟩:=Zj (I6 hx1)
 have hxw:=hx1.before.before
 unfold linV
 dsimp only
 clear hx1 ho
 go_wp2_with fail
 refine E1 (Zi results37 rfl (Zk f7) rfl) rfl ?_
 exact⟨(k,t,ad),rfl,HO.out,Zo hxw (A4 _) _ _ _⟩
theorem ZlJ (v:Value) (m:List Bool) (w:World) (hv:SlK w v (m.map encT)) (hm:m.length<=1000000):
 Calls prog 38 #[.agg #[v]] w (RdR (Ln.rTwo 7 m) w):=by
 have HW:=A0 (fun w' (h:Ext w w')=>CM 7 v m w' (hv.ext h) hm)
 obtain⟨-,a,c,rfl,-⟩:=hv
 rw[J0]at HW⊢
 generalize m.length=ml at*
 generalize Ln.rTwo 7 m=res at*
 go_enter func38,ntmps38
 go_wp2_with fail
 refine(HW.out _ Xf).mono ?_
 rintro e w1 ⟨⟨k,t,ad⟩,rfl,ho,hx1⟩
 have HO:=A0 ho
 obtain⟨f0,f1,f2,f3,f4,f5,f6,f7⟩:=Zj (I6 hx1)
 have hxw:=hx1.before.before
 unfold linV
 dsimp only
 clear hx1 ho
 go_wp2_with fail
 refine E1 (Zi results38 rfl (Zk f7) rfl) rfl ?_
 exact⟨(k,t,ad),rfl,HO.out,Zo hxw (A4 _) _ _ _⟩
theorem ZlI (v:Value) (m:List Bool) (w:World) (hv:SlK w v (m.map encT)) (hm:m.length<=1000000):
 Calls prog 34 #[.agg #[v]] w (RdR (Ln.rEan m) w):=by
 have HW:=A0 (fun w' (h:Ext w w')=>Ziu v m w' (hv.ext h) hm)
 obtain⟨res,hres⟩:∃res,res=Ln.rEan m:=⟨_,rfl⟩
 rw[<-hres]
 unfold Ln.rEan at hres
 obtain⟨⟨⟨k,t,ad⟩,er⟩,hd⟩:∃r,r=Ea.dec m:=⟨_,rfl⟩
 rw[<-hd]at HW hres
 have HR:=A0 hres
 obtain⟨-,a,c,rfl,-⟩:=hv
 rw[J0]at HW⊢
 generalize m.length=ml at*
 unfold gotV linV at HW
 dsimp only at HW
 obtain⟨bb,hbb⟩:∃bb,bb=(er==0):=⟨_,rfl⟩
 have HF:Hid (bb=res.isSome∧(res.isSome=true->res=some (k,t,ad))):=A0 (by rw[hbb,HR.out];dsimp only;by_cases he:er=0;(·exact PL);·rw[C0 he];simp[he])
 have hbe:=hbb.symm
 clear hd hres hbb HR
 go_enter func34,ntmps34
 go_wp2_with fail
 refine(HW.out _ Xf).mono ?_
 rintro e w1 ⟨rfl,hx1⟩
 obtain⟨f0,f1,f2,f3,f4,f5,f6,f7⟩:=Zj (I6 hx1)
 have hxw:=hx1.before.before
 clear hx1
 go_wp2_with fail
 refine E1 (Zi results34 rfl (Ze (Zk f7) ((Ext.refl _).alloc _)) rfl) rfl ?_
 exact⟨(k,t,ad),by rw[HF.out.1];rfl,HF.out.2,(Zo hxw (A4 _) _ _ _).alloc _⟩
end
section
open Go.RowKit Go.Maps Go
theorem eA {l:List Int} (h:l.length=6):∃a b c d e f,l=[a,b,c,d,e,f]:=by
 match l,h with
 | [a,b,c,d,e,f],_=>exact⟨a,b,c,d,e,f,rfl⟩
theorem eB {w:World} {b o:Nat} {x0 x1 x2 x3 x4 x5:Int} (h:w.rangeAt b o (([x0,x1,x2,x3,x4,x5]:List Int).map encI)):w.cell? ⟨b,o,none⟩=some (.int .i64 x0)∧w.cell? ⟨b,o+1,none⟩=some (.int .i64 x1)∧w.cell? ⟨b,o+2,none⟩=some (.int .i64 x2)∧w.cell? ⟨b,o+3,none⟩=some (.int .i64 x3)∧w.cell? ⟨b,o+4,none⟩=some (.int .i64 x4)∧w.cell? ⟨b,o+5,none⟩=some (.int .i64 x5):=
 ⟨h 0 _ rfl,h 1 _ rfl,h 2 _ rfl,h 3 _ rfl,h 4 _ rfl,h 5 _ rfl⟩
theorem Zha (v:Value) (m:List Bool) (w:World) (hv:SlK w v (m.map encT)) (hm:m.length<=400000):
 Calls prog 79 #[v] w (F5 (Cc.dec m) w):=by
 have HMG:=A0 (MT v m w hv B0)
 have HWD:=A0 (EP v m w hv B0)
 obtain⟨hwin,hwlen⟩:=Rn.widths_in m
 obtain⟨hsl,ca,cc,rfl,-⟩:=hv
 rw[J0]at hsl HMG HWD⊢
 obtain⟨A,hA⟩:∃A,A=Ea.ldg m:=⟨_,rfl⟩
 obtain⟨B,hB⟩:∃B,B=Ea.trl m:=⟨_,rfl⟩
 have hcore:Rn.core m=[]↔A=m.length:=by rcases Rn.row_split m with⟨h1,_,h3,_⟩|⟨q,h1,_,h3⟩;(·rw[hA,h3];exact⟨fun _=>rfl,fun _=>h1⟩);·have h4:=R0 List.length h3;rw[T0,T0,D3,D3,h1,D1]at h4;rw[h1,hA];exact⟨fun h=>by(cases h),fun h=>by omega⟩
 rw[<-hA,<-hB]at HMG
 have HR:=A0 (Cc.dec.eq_1 m)
 rw[<-hA,<-hB]at HR
 obtain⟨ws,hws⟩:∃ws,ws=Rn.widths m:=⟨_,rfl⟩
 rw[<-hws]at HR HWD hwin hwlen
 generalize Cc.dec m=res at*
 obtain⟨M,hM⟩:∃M,M=m.length:=⟨_,rfl⟩
 rw[<-hM]at hsl HMG HWD hm hcore hwin hwlen⊢
 have HSL:=A0 hsl
 clear hA hB hws hM hsl
 by_cases hAM:A=M
 ·have z1:((A:Int)==(M:Int))=true:=Y0.2 B0;have HF:Hid (res=([],5)):=A0 (by rw[HR.out,D0 (hcore.2 hAM)]);clear HR hcore hAM;exact BU
 have z1:((A:Int)==(M:Int))=false:=N0.2 B0
 have HR1:Hid (res=_):=A0 (HR.out.trans (C0 (fun h=>hAM (hcore.1 h))))
 clear HR hcore hAM
 by_cases hq:A<10∨B<10
 ·have HF:Hid (res=([],9)):=A0 (by rw[HR1.out,D0 hq]);clear HR1;by_cases hA10:A<10;(·have hAI:(A:Int)<10:=B0;clear hq;exact BU);·have hAI:¬(A:Int)<10:=B0;have hBI:(B:Int)<10:=B0;clear hq;exact BU
 have HR2:Hid (res=_):=A0 (HR1.out.trans (C0 hq))
 have hAI:¬(A:Int)<10:=by omega
 have hBI:¬(B:Int)<10:=by omega
 clear HR1 hq
 obtain⟨n,hn⟩:∃n,n=ws.length:=⟨_,rfl⟩
 rw[<-hn]at HR2 hwlen
 have HNW:=A0 hn
 clear hn
 by_cases hk:n<19∨(n-7)%6≠0
 ·have HF:Hid (res=([],7)):=A0 (by rw[HR2.out,D0 hk]);clear HR2;by_cases hn19:n<19;(·have hnI:(n:Int)-7<12:=B0;clear hk;exact eC);·have hnI:¬(n:Int)-7<12:=B0;obtain⟨k,hkk⟩:∃k,k=n-7:=⟨_,rfl⟩;have hkI:(n:Int)-7=(k:Int):=B0;obtain⟨r,hr⟩:∃r:Int,r=(k:Int)%6:=⟨_,rfl⟩;have hr2:=hr.symm;have hrI:r≠0:=B0;have hrb:(r !=0)=true:=(by simp[hrI]);have hrd:decide (r=0)=false:=X0 hrI;have hnI:¬(k:Int)<12:=B0;clear hk hkk hr;exact eC
 have HR3:Hid (res=_):=A0 (HR2.out.trans (C0 hk))
 obtain⟨k,hkk⟩:∃k,k=n-7:=⟨_,rfl⟩
 obtain⟨K,hK⟩:∃K,K=k/6:=⟨_,rfl⟩
 rw[<-hkk,<-hK]at HR3
 have hkI:(n:Int)-7=(k:Int):=by omega
 have hk12:¬(k:Int)<12:=by omega
 have hp6:(k:Int)%6=0:=by omega
 have hkK:k=6*K:=by omega
 have hk0I:(0:Int)<=(k:Int):=by omega
 have hkn:k<=n:=by omega
 have hknI:(k:Int)<=(n:Int):=by omega
 have hwk:IntKind.i64.wrap (k:Int)=(k:Int):=T3 _ B0
 have HKK:=A0 hkK
 clear HR2 hk hkk hK hkK
 go_enter func79,ntmps79
 go_wp2_with fail
 refine HMG.out.mono ?_
 rintro e w1 ⟨rfl,rfl⟩
 go_wp2_with fail
 refine HWD.out.mono ?_
 rintro e w1 ⟨u,rfl,⟨hs,a,c,rfl,hc⟩,hx1⟩
 have hnw:=HNW.out
 rw[J0,<-hnw]at hs hc⊢
 obtain⟨x0,hx0⟩:∃x,ws[0]? =some x:=⟨_,M0 B0⟩
 obtain⟨b,o,ha,hb,-⟩:=hs.int_at (Ext.refl w1) hx0
 subst ha
 have HS:=A0 hs
 have hknc:k<=c:=by omega
 have HSD:Hid (∀w',Ext w1 w'->SlK w' (.slice (some ⟨b,o+k,none⟩) (n-k) (c-k)) ((ws.drop k).map encI)):=A0 (fun w' hx=>by have h1:=HS.out.part k n (c-k) A3 hkn;rw[<-I3,<-R3,X1 B0]at h1;exact⟨Sl.ext h1 hx,_,_,by rw[J0,X2,<-hnw],by rw[J0,X2];omega⟩)
 have HST:=A0 (fun w=>gT 106 w (K0 _))
 clear hnw hx0 hs
 go_wp2_with fail
 obtain⟨db,hdb⟩:∃db,db=decide (ws.drop k=Cc.stopP):=⟨_,rfl⟩
 have HDB:=A0 hdb
 clear hdb
 refine Zh 5 1 rfl [41,42,43,44,45] [[],[],[0,1],[],[2,3]] G0 G0 ?_
 apply Za
 ·intro V w' hx hf;(with_reducible refine relAt_ops ?_);intro A ρ hA hρ hcst hfun;have h6:ρ (.tmp 6)=.slice (some ⟨b,o,none⟩) n c:=(P0 hρ _).trans (evalMiss hA 6 rfl);exact QO
 apply Za
 ·intro V w' hx hf;(with_reducible refine relAt_ops ?_);intro A ρ hA hρ hcst hfun;have h7:ρ (.tmp 7)=.int .i64 (k:Int):=(P0 hρ _).trans (evalMiss hA 7 rfl);exact relUpon_move (hk:=by rw[h7];exact⟨Ext.refl _,rfl⟩)
 refine Zc (fun v w=>SlK w v ((ws.drop k).map encI)) (fun _ _ _ h hx=>h.ext hx) ?_ ?_
 ·intro V w' hx hf;(with_reducible refine relAt_ops ?_);intro A ρ hA hρ hcst hfun;obtain⟨f41,f42,_⟩:=hf;have h41:ρ (.tmp 41)=_:=(P0 hρ _).trans ((evalHit hA 41 rfl).trans f41);have h42:ρ (.tmp 42)=_:=(P0 hρ _).trans ((evalHit hA 42 rfl).trans f42);have hq:=HSD.out w' hx;simp[relUpon,go_sem,hcst,↓IntWalk.iteOmega,Ext.refl,h41,h42,hwk,hk0I,hknI,hkn,hknc];rw[R3]at hq;exact hq
 refine Zc (fun v w=>SlK w v (Cc.stopP.map encI)) (fun _ _ _ h hx=>h.ext hx) ?_ ?_
 ·intro V w' hx hf;(with_reducible refine relAt_ops ?_);intro A ρ hA hρ hcst hfun;simp[relUpon,go_sem,hcst,hfun];exact(HST.out w').mono fun e w'' ⟨u,he,hs,hy⟩=>⟨u,he,hy,hs⟩
 refine Zc (eqv (.bool db)) (Zg _) ?_ ?_
 ·intro V w' hx hf;(with_reducible refine relAt_ops ?_);intro A ρ hA hρ hcst hfun;obtain⟨f43,f44,_⟩:=hf;have h43:ρ (.tmp 43)=V 43:=(P0 hρ _).trans (evalHit hA 43 rfl);have h44:ρ (.tmp 44)=V 44:=(P0 hρ _).trans (evalHit hA 44 rfl);simp[relUpon,go_sem,hcst,hfun,h43,h44];exact(Ziy (V 43) (V 44) (ws.drop k) Cc.stopP w' f43.1 f44.1 (by rw[X2];have:=HNW.out;omega) I0).mono fun e w'' ⟨he,q,hw⟩=>⟨_,he,by rw[hw];exact(Ext.refl _).drewN _,by rw[HDB.out];rfl⟩
 intro V wT hxT hf
 obtain⟨-,-,-,-,g45,-⟩:=hf
 simp only[fillA,F1,O1,Act.put,V1,N1,L1]
 have q45:V 45=_:=g45
 rw[q45]
 refine Zb 5 G0 rfl (fun K5 hK5=> ?_)
 go_simp
 refine hK5 _ _ ?_
 clear hK5 K5
 refine⟨rfl,?_⟩
 have hxw:=hx1.trans hxT
 clear g45 q45
 by_cases hst:ws.drop k≠Cc.stopP
 ·have HF:Hid (res=([],20)):=A0 (HR3.out.trans (D0 hst));obtain rfl:db=false:=(by rw[HDB.out];exact X0 hst);clear HR3 hst;go_wp2;go_ret2;rw[HF.out];exact F5.bad _ _ _ hxw
 have HR4:Hid (res=_):=A0 (HR3.out.trans (C0 hst))
 obtain rfl:db=true:=by rw[HDB.out];exact V0 (L5.1 hst)
 clear HR3 hst HSD HST
 have hmm:= @run_makeMap prog
 have hmade:=MapV.made (P:=prog) (k:=172) (key:=Cc.key) wT
 rw[<-Cc.fTo_zero]at hmade
 have HMade:=A0 hmade
 have HBX:=A0 (Ext.refl wT)
 clear hmade
 clear HMG HWD HSL
 have hxw':=A0 hxw
 have HX1:=A0 (hx1)
 clear hxw
 go_wp2_with fail
 have HST:=A0 (fun v w hv=>gT v w hv)
 go_loopw [48] (fun t wr=>∃i:Nat,i<=106∧t=.int .i64 (i:Int)∧Hid (MapV prog 172 Cc.key wr wT.heap.size i (Cc.fTo i))∧Hid (Ext wT wr)) (fun t _=>106-(intOf t).toNat)
 case atStart=>exact⟨0,O0 _,rfl,HMade,A0 ((Ext.refl wT).alloc _)⟩
 case round=>
 clear HMade HBX
 obtain⟨i,hi,rfl,HM,HX⟩:=hrel
 by_cases hlt:i<106
 ·have hiI:(i:Int)<106:=B0;obtain⟨pl,pin⟩:=Cc.pat_in i hlt;have ew:Cc.widOf i=Cc.pats.getD i []:=(by rw[Cc.widOf,C0 B0]);go_wp2_with fail;refine(HST.out i wr B0).mono ?_;rintro e w2 ⟨u,rfl,⟨hu,a2,c2,rfl,-⟩,hx2⟩;rw[ew]at hu;rw[ew,J0,pl];rw[J0,pl]at hu;obtain⟨y0,hy0⟩:∃x,(Cc.pats.getD i [])[0]? =some x:=⟨_,M0 (by rw[pl];decide)⟩;obtain⟨b2,o2,ha,hb2,-⟩:=hu.int_at (Ext.refl w2) hy0;subst ha;have hrg:=hu.range6 (Ext.refl w2) 0;rw[R5,X1 (by rw[pl];exact K0 _),Y4]at hrg;obtain⟨y0,y1,y2,y3,y4,y5,hl6⟩:=eA pl;rw[hl6]at hrg;obtain⟨hc0,hc1,hc2,hc3,hc4,hc5⟩:=eB hrg;have hap:= @cB w2 (some ⟨b2,o2,none⟩) c2;obtain⟨kl,hkl⟩:=Cc.keyOf_six' pl (fun x hx=>by have:=pin x hx;omega);have hM2:=HM.out.kept hx2.asGrown L0;obtain⟨w3,hup,hM3,hg3⟩:=hM2.put (T:=171) Cc.keyed underlying171 hkl (i:Int) U4 Cc.key_inj;rw[<-Cc.fTo_succ i hlt]at hM3;rw[hl6]at hup;have hup:(Instr.mapUpdate 171 (.map (some wT.heap.size)) (.agg #[.int .i64 y0,.int .i64 y1,.int .i64 y2,.int .i64 y3,.int .i64 y4,.int .i64 y5]) (.int .i64 (i:Int))).run prog w2=_:=hup;have HM3:=A0 hM3;have HX3:=A0 ((HX.out.trans hx2).ofGrown hg3 (fun q hq=>by injection hq with hq;omega));clear hM3 hg3 hM2 hkl hrg hu hy0 HM HX pin ew pl hl6;go_wp2_with fail;go_roundw;(case rel=>exact⟨_,_,_,_,_,_,_,_,_,_,_,⟨i+1,by omega,by go_num,HM3,HX3⟩,rfl⟩);case measure=>exact C1
 obtain rfl:i=106:=by omega
 rw[Cc.fTo_all]at HM
 clear hi hlt HST
 have hmlt:wT.heap.size<wr.heap.size:=HM.out.lt
 obtain⟨mb,hmb⟩:∃mb,mb=wT.heap.size:=⟨_,rfl⟩
 rw[<-hmb]at HM hmlt⊢
 have HMB:=A0 hmb
 have HSZ:Hid (mb+1<=wr.heap.size):=A0 hmlt
 clear hmlt hmb
 go_wp2_with fail
 go_loopw [10,11] (fun u t wq=>∃(j:Nat) (out:List Int),j<=K∧t=.int .i64 ((6*j:Nat):Int)∧out.length<=j∧Hid (Cc.valsGo K ws=(Cc.valsGo (K-j) (ws.drop (6*j))).map (out++·))∧Hid (Own 3 wq (mb+1) u (out.map encI))∧Hid (MapV prog 172 Cc.key wq mb 106 fun w=>(Cc.valOf w).map fun(i:Nat)=>(i:Int))∧Hid (Ext wT wq)∧Hid (mb+1<=wq.heap.size)) (fun _ t _=>k-(intOf t).toNat)
 case atStart=>exact⟨0,[],O0 _,rfl,K0 _,A0 eD,A0 (Own.nil _ _ _),HM,HX,HSZ⟩
 case round=>
 clear HM HX HSZ
 obtain⟨j,out,hj,rfl,hol,HV,HO,HM,HX,HSZ⟩:=hrel
 obtain⟨p,hp⟩:∃p,p=6*j:=⟨_,rfl⟩
 rw[<-hp]at HV⊢
 have hkK:=HKK.out
 by_cases hlt:j<K
 ·obtain⟨q,hq⟩:∃q,q=p+6:=⟨_,rfl⟩
  have hqI:(p:Int)+6=(q:Int):=by omega
  have hqp:q-p=6:=by omega
  have hpk:(p:Int)<(k:Int):=by omega
  have hpq:p<=q:=by omega
  have hpqI:(p:Int)<=(q:Int):=by omega
  have hqc:q<=c:=by omega
  have hqcI:(q:Int)<=(c:Int):=by omega
  have hqk:q<=k:=by omega
  have h6:((ws.drop p).take 6).length=6:=by rw[M1,X2,<-HNW.out];omega
  obtain⟨y0,y1,y2,y3,y4,y5,hl6⟩:=eA h6
  have hrg:=HS.out.range6 (hxT.trans HX.out) p
  obtain⟨kl,hkl⟩:=Cc.keyOf_six' h6 (fun x hx=>by have:=hwin x (M6 (G4 hx));omega)
  have hget:=HM.out.get (T:=171) (e:=3) Cc.keyed underlying171 G0 hkl
  have hvs:Cc.valsGo (K-j) (ws.drop p)=match Cc.valOf ((ws.drop p).take 6)with|none=>none|some v=>(Cc.valsGo (K-(j+1)) (ws.drop q)).map fun l=>(v:Int)::l:=eF
  rw[hvs]at HV
  rw[hl6]at hrg hget
  rw[hl6]at HV
  obtain⟨hc0,hc1,hc2,hc3,hc4,hc5⟩:=eB hrg
  have hap:=fun c'=> @cB wr (some ⟨b,o+p,none⟩) c'
  have hget:(Instr.lookup 171 (.map (some mb)) (.agg #[.int .i64 y0,.int .i64 y1,.int .i64 y2,.int .i64 y3,.int .i64 y4,.int .i64 y5]) true).run prog wr=_:=hget
  clear hkl hrg h6 hl6 hvs
  cases hvo:Cc.valOf [y0,y1,y2,y3,y4,y5]with
  |none=>rw[hvo]at HV hget;have HF:Hid (res=([],18)):=A0 (by rw[HR4.out,HV.out];rfl);have hxw:=hxw'.out.trans HX.out;simp only[Option.map_none,Option.getD_none,GG]at hget;clear HV HR4 hp hq hkK hj hol hlt hqk HO HM HX HSZ;go_wp2_with fail;go_ret2;rw[HF.out];exact F5.bad _ _ _ hxw
  |some v=>rw[hvo]at HV hget;simp only[YF,Option.getD_some,GH]at hget;have HV2:Hid (Cc.valsGo K ws=(Cc.valsGo (K-(j+1)) (ws.drop q)).map ((out++[(v:Int)])++·)):=A0 eG;have hown:=HO.out;have hsz:=HSZ.out;have hol2:(out++[(v:Int)]).length<=j+1:=YQ;have hol9:out.length<=400000:=B0;have hq6:6*(j+1)=q:=B0;have hmes:k-q<k-p:=B0;clear HV hp hq hkK HO hvo;go_wp2_with (at_builtin;refine Zq rfl _ _ rfl (mb+1) _ out rfl (hown.alloc _) _ (v:Int) rfl ?c1 ?c2 ?c3 ?_);(case c1=>exact L3);(case c2=>omega);(case c3=>exact Y2);intro v' w5 hown5 hg5;have hgm:=HMB.out;have HX5:=A0 ((HX.out.alloc _).ofGrown hg5 (fun r hr=>by have:=hown.low r hr;omega));have HM5:=A0 ((HM.out.kept ((Ext.refl wr).alloc (.cells #[.int .i64 (v:Int)] 3)).asGrown L0).kept hg5 (fun e=>by have:=hown.low _ e;omega));have HSZ5:Hid (mb+1<=w5.heap.size):=A0 (B4 hsz (B4 L0 hg5.size));have HO5:Hid (Own 3 w5 (mb+1) v' ((out++[(v:Int)]).map encI)):=A0 F6;clear hown hown5 hg5 hsz hgm HM HX HSZ hget;go_wp2_with fail;refine⟨⟨_,_,_,_,_,_,_,_,_,_,_,_,_,_,_,_,_,_,_,_,_,_,_,_,_,_,_,_,_,⟨j+1,_,by omega,by rw[hq6],hol2,by rw[hq6];exact HV2,HO5,HM5,HX5,HSZ5⟩,rfl⟩,?_⟩;(simp[intOf];try omega)
 ·obtain rfl:K=j:=B0;have HF:Hid (res=Cc.chars (out++[106])):=A0 eH;have hpk:¬(p:Int)<(k:Int):=B0;have hown:=HO.out;have hsz:=HSZ.out;have hol2:(out++[(106:Int)]).length<=400000:=YQ;have hol9:out.length<=400000:=B0;have HXT:=hxw';clear HV HR4 hp hkK HO HM hj hlt;go_wp2_with (at_builtin;refine Zq rfl _ _ rfl (mb+1) _ out rfl (hown.alloc _) _ 106 rfl ?c1 ?c2 ?c3 ?_);(case c1=>exact L3);(case c2=>omega);(case c3=>exact Y2);intro v' w5 hown5 hg5;have hgm:=HMB.out;have HX5:=A0 (HXT.out.trans ((HX.out.alloc _).ofGrown hg5 (fun r hr=>by have:=hown.low r hr;omega)));have hk5:SlK w5 v' ((out++[(106:Int)]).map encI):=(by have h:Own 3 w5 (mb+1) v' ((out++[(106:Int)]).map encI):=L9;exact h.slk);have HCH:=A0 (ZkC v' (out++[106]) w5 hk5 hol2);clear hown hown5 hg5 hsz hgm hk5;exact eI
end
section
open Go.RowKit
theorem ZjL {xs:List Gs.El} (h:Gs.verL xs=0):∀x∈xs,x.1.length<=maxLen∧x.2.length<=maxLen:=by intro x hx;have:=KI (AE h x hx);exact V7
theorem ZmH {xs:List Gs.El} (h:Gs.verL xs=0):xs.length<=(Gs.chG xs).length:=by
 induction xs with
 |nil=>simp
 |cons x xs ih=>obtain⟨h0,h1⟩:=eK h;obtain⟨r,h2,_⟩:=BX h0;have h3:=(V9 h2).1;have h4:=ih h1;simp only[Gs.chG,T0,eM,D1];omega
theorem fR {xs:List Gs.El} {c:List Int} (h:Gs.frChars c=(xs,0)):xs.length<=4096∧∀x∈xs,x.1.length<=maxLen∧x.2.length<=maxLen:=by
 have h:=ZfA h;unfold Gs.chars at h;split at h;·exact AC
 ·split at h;(·simp at h);·rename_i h1 h2;have h3:=AF (H6 h1);have:=ZmH h3;rw[D1]at h2;exact⟨by omega,ZjL h3⟩
theorem Zi3 (v:Value) (m:List Bool) (w:World) (hv:Sl w v (m.map encT)) (hm:m.length<=1000000):
 Calls prog 77 #[v,.bool true] w fun e w'=>(∃k:Int,e=.returned (.int .i64 k)∧decide (0<=k)=Ln.dark m)∧w=w':=by
 obtain⟨a,c,rfl⟩:=hv.form
 rw[J0]at hv⊢
 obtain⟨n,hn⟩:∃n,n=m.length:=⟨_,rfl⟩
 rw[<-hn]at hv hm⊢
 have HN:=A0 hn
 have HV:=A0 hv
 have HD:=A0 (show Ln.dark m=m.any fun b=>b from rfl)
 generalize Ln.dark m=d at*
 clear hv hn
 go_enter func77,ntmps77
 go_wp2_with fail
 go_loop [8] (fun t=>∃j:Nat,j<=n∧t=.int .i64 (j:Int)∧Hid (∀x∈m.take j,x=false)) (fun t=>n-(intOf t).toNat)
 case atStart=>exact RI
 case round=>
 obtain⟨j,hj,rfl,HB⟩:=hrel
 by_cases hlt:j<n
 ·obtain⟨x,hxj⟩:∃x,m[j]? =some x:=⟨_,M0 J4⟩
  obtain⟨b,o,ha,hb,hc⟩:=HV.out.bool_at (Ext.refl w) hxj
  subst ha
  have hjI:(j:Int)<(n:Int):=by omega
  cases x with
  |true=>have HF:Hid (d=true):=A0 fS;clear hxj;go_wp2;go_ret;exact⟨⟨_,rfl,by rw[HF.out];exact V0 B0⟩,rfl⟩
  |false=>exact fT
 ·obtain rfl:n=j:=B0;have HF:Hid (d=false):=A0 fU;clear hlt hj;go_wp2;go_ret;exact⟨⟨_,rfl,by rw[HF.out];rfl⟩,rfl⟩
theorem fV (v:Value) (m:List Bool) (w:World) (hv:Sl w v (m.map encT)) (hm:m.length<=1000000):
 Calls prog 33 #[v,.bool true] w fun e w'=>e=.returned (.bool (Ln.dark m))∧w=w':=by
 have HI:=A0 (Zi3 v m w hv hm)
 generalize Ln.dark m=d at*
 obtain⟨a,c,rfl⟩:=hv.form
 rw[J0]at HI⊢
 generalize m.length=n at*
 go_enter func33,ntmps33
 go_wp2_with fail
 refine HI.out.mono ?_
 rintro e w1 ⟨⟨k,rfl,hk⟩,rfl⟩
 go_wp2
 go_ret
 exact⟨by first|rfl|simp[hk],rfl⟩
theorem fW (w:World) (n:Nat) (B:Nat) (hn:n<=1000000) (hB:B<=w.heap.size):∃w',(Instr.makeSlice 90 (.int .i64 (n:Int)) (.int .i64 (n:Int))).run prog w=.ok (.slice (some ⟨w.heap.size,0,none⟩) n n) w'∧Own 5 w' B (.slice (some ⟨w.heap.size,0,none⟩) n n) ((List.replicate n (0:UInt8)).map encB)∧Ext w w':=by
 obtain⟨i0,hi,hz0,hz1,hz2⟩:=V5 VI;obtain⟨w',h1,h2,h3⟩:=MW (P:=prog) w B 90 5 i0 (.int .u8 0) 1 underlying90 hi hz0 hz1 .i64 .i64 n RS RT hB;refine⟨w',h1,?_,(Ext.refl w).ofGrown h3 (fun k hk=>by cases hk)⟩;unfold Own;rw[J0,D3];have e:(madeCells (Value.int .u8 0).cells (n*1)).toList=(List.replicate n (0:UInt8)).map encB:=gQ
 rw[<-e];exact h2
theorem Own.byteAt {w:World} {B g n c:Nat} {xs:List UInt8} (h:Own 5 w B (.slice (some ⟨g,0,none⟩) n c) (xs.map encB)) {i:Nat} (hi:i<xs.length):∃x,w.cell? ⟨g,i,none⟩=some (encB x)∧w.frozen? ⟨g,i,none⟩=false:=by
 rcases h.2 with⟨h1,_⟩|⟨g',cap,cur,h1,hb,hg,_,_,hcs,ht⟩;·cases h1
 ·injection h1 with h2;injection h2 with h2;injection h2 with h2;subst h2;refine⟨xs[i],?_,by simp[World.frozen?,hg]⟩;have e:cur.toList[i]? =some (encB xs[i]):=gR;simp only[World.cell?,hg];simpa using e
theorem Own.putB {w:World} {B g n c:Nat} {xs:List UInt8} (h:Own 5 w B (.slice (some ⟨g,0,none⟩) n c) (xs.map encB)) (i:Nat) (x:UInt8):Own 5 (w.setCell ⟨g,i,none⟩ (encB x)) B (.slice (some ⟨g,0,none⟩) n c) ((xs.set i x).map encB):=by
 have hn:n=(xs.map encB).length:=gS
 subst hn;obtain⟨h1,h2⟩:=World.ownsRow.stored h i (encB x);unfold Own;rw[List.map_set,U6];exact h1
theorem Zj2 {l:List Int} {x:Int} {i n:Nat} (f:Int->UInt8) (hn:l.length=n) (h:l[i]? =some x):((l.take i).map f++List.replicate (n-i) (0:UInt8)).set i (f x)=(l.take (i+1)).map f++List.replicate (n-(i+1)) 0:=by
 have hi:=(I1.1 h).1;have e:n-i=(n-(i+1))+1:=by omega
 rw[MY _ _ (by rw[J0,M1];omega),J0,M1,X6 B0,I4,e,N5,L1,Zz h,E3,M3];rfl
def chB (c:Int):UInt8:=UInt8.ofNat c.toNat
theorem ZlG (v:Value) (m:List Bool) (w:World) (hv:SlK w v (m.map encT)) (hm:m.length<=400000) (ht:ZY w):
 Calls prog 35 #[.agg #[v]] w (RdR (Ln.r128 m) w):=by
 have HD:=A0 (fun w' (h:Ext w w')=>Zha v m w' (hv.ext h) hm)
 have HCS:=A0 (fun cs h=> @Cc.dec_ge m cs h)
 have hwl:=(Rn.widths_in m).2
 obtain⟨res,hres⟩:∃res,res=Ln.r128 m:=⟨_,rfl⟩
 rw[<-hres]
 unfold Ln.r128 at hres
 obtain⟨⟨cs,er⟩,hd⟩:∃r,r=Cc.dec m:=⟨_,rfl⟩
 rw[<-hd]at HD HCS hres
 unfold Ln.of128 at hres
 dsimp only at hres
 have HR:=A0 hres
 have HT:=A0 ht
 obtain⟨-,a,c,rfl,-⟩:=hv
 rw[J0]at HD⊢
 clear hd hres
 by_cases he:er≠0
 ·have HF:Hid (res=none):=A0 CN;have z:(er !=0)=true:=(by simp[he]);have zd:decide (er=0)=false:=X0 he;clear HR he HCS;generalize m.length=ml at*;go_enter func35,ntmps35;go_wp2_with fail;refine(HD.out _ Xf).mono ?_;rintro e w1 ⟨u,rfl,hu,hx1⟩;obtain⟨f0,f1,f2,f3,f4,f5,f6,f7⟩:=Zj (I6 hx1);have hxw:=hx1.before.before;clear hx1 hu;exact fX
 obtain rfl:er=0:=L5.1 he
 have HR1:=A0 (HR.out.trans (C0 he))
 obtain⟨hc0,hcl⟩:=HCS.out cs rfl
 have hcl:cs.length<=400000:=by omega
 generalize m.length=ml at*
 have HC0:=A0 hc0
 clear HR he HCS hc0 hwl
 obtain⟨n,hn⟩:∃n,n=cs.length:=⟨_,rfl⟩
 rw[<-hn]at hcl
 have HN:=A0 hn
 clear hn
 by_cases hf:cs.head? =some 256
 ·rw[D0 hf]at HR1;have hx0:cs[0]? =some 256:=(by rw[<-KP];exact hf);have hn0:0<n:=fY;have hnI:(0:Int)<(n:Int):=B0;have HX0:=A0 hx0;have HFR:=A0 (fun v w' h h2=>ZkY v cs w' h G5 h2);obtain⟨⟨els,e2⟩,hfr⟩:∃r,r=Gs.frChars cs:=⟨_,rfl⟩;have HEL:=A0 (fun h=> @fR els cs h);rw[<-hfr]at HFR HR1 HEL;dsimp only at HR1;unfold ElsR at HFR;dsimp only at HFR;clear hf hx0 hfr;by_cases he2:e2≠0;(·rw[D0 he2]at HR1;have z:(e2 !=0)=true:=(by simp[he2]);have zd:decide (e2=0)=false:=X0 he2;clear he2 HEL;go_enter func35,ntmps35;go_wp2_with fail;refine(HD.out _ Xf).mono ?_;rintro e w1 ⟨u,rfl,hu,hx1⟩;have HTX:=A0 (Z2 HT.out hx1.before.before);have HFC:=A0 (HFR.out u w1 hu HTX.out);obtain⟨hsl,au,cu,rfl,hcu⟩:=hu;rw[J0,<-HN.out]at hsl HFC hcu⊢;obtain⟨b,o,ha,hb,hc⟩:=hsl.int_at (Ext.refl w1) HX0.out;subst ha;rw[Y4]at hc;have HX1:=A0 hx1;clear hx1 hsl;go_wp2_with fail;refine HFC.out.mono ?_;rintro e w2 ⟨u2,rfl,hu2,hx2⟩;obtain⟨f0,f1,f2,f3,f4,f5,f6,f7⟩:=Zj (I6 (HX1.out.trans hx2));have hxw:=(HX1.out.trans hx2).before.before;clear hx2 hu2 hc;exact fZ);obtain rfl:e2=0:=L5.1 he2;rw[C0 he2]at HR1;obtain⟨hel1,hel2⟩:=HEL.out rfl;have HFO:=A0 (fun v w' h h2=>Ziz v els w' h B0 hel2 h2);obtain⟨⟨s,e3⟩,hfo⟩:∃r,r=Gs.format els:=⟨_,rfl⟩;rw[<-hfo]at HFO HR1;dsimp only at HR1;obtain⟨T,hT⟩:∃T,T=Ea.bS s:=⟨_,rfl⟩;have HTB:=A0 hT;have HFO2:Hid (∀v w',ESl w' v els->ZY w'->Calls prog 19 #[v] w' fun e w''=>e=.returned (.tuple #[.string T,.int .i64 e3])∧Ext w' w''):=A0 (fun v w' h h2=>by rw[hT];exact HFO.out v w' h h2);clear hfo HFO he2 HEL hel2 hT;by_cases he3:e3≠0;(·rw[D0 he3]at HR1;have z:(e3 !=0)=true:=(by simp[he3]);have zd:decide (e3=0)=false:=X0 he3;clear he3;go_enter func35,ntmps35;go_wp2_with fail;refine(HD.out _ Xf).mono ?_;rintro e w1 ⟨u,rfl,hu,hx1⟩;have HTX:=A0 (Z2 HT.out hx1.before.before);have HFC:=A0 (HFR.out u w1 hu HTX.out);obtain⟨hsl,au,cu,rfl,hcu⟩:=hu;rw[J0,<-HN.out]at hsl HFC hcu⊢;obtain⟨b,o,ha,hb,hc⟩:=hsl.int_at (Ext.refl w1) HX0.out;subst ha;rw[Y4]at hc;have HX1:=A0 hx1;clear hx1 hsl;go_wp2_with fail;refine HFC.out.mono ?_;rintro e w2 ⟨u2,rfl,hu2,hx2⟩;have HU2:=A0 hu2;have HX2:=A0 hx2;clear hu2 hx2 hc;go_wp2_with fail;refine(HFO2.out u2 w2 HU2.out (Z2 HTX.out HX2.out)).mono ?_;rintro e w3 ⟨rfl,hx3⟩;obtain⟨f0,f1,f2,f3,f4,f5,f6,f7⟩:=Zj (I6 ((HX1.out.trans HX2.out).trans hx3));have hxw:=((HX1.out.trans HX2.out).trans hx3).before.before;clear hx3;exact fZ);·obtain rfl:e3=0:=L5.1 he3;rw[C0 he3]at HR1;clear he3;go_enter func35,ntmps35;go_wp2_with fail;refine(HD.out _ Xf).mono ?_;rintro e w1 ⟨u,rfl,hu,hx1⟩;have HTX:=A0 (Z2 HT.out hx1.before.before);have HFC:=A0 (HFR.out u w1 hu HTX.out);obtain⟨hsl,au,cu,rfl,hcu⟩:=hu;rw[J0,<-HN.out]at hsl HFC hcu⊢;obtain⟨b,o,ha,hb,hc⟩:=hsl.int_at (Ext.refl w1) HX0.out;subst ha;rw[Y4]at hc;have HX1:=A0 hx1;clear hx1 hsl;go_wp2_with fail;refine HFC.out.mono ?_;rintro e w2 ⟨u2,rfl,hu2,hx2⟩;have HU2:=A0 hu2;have HX2:=A0 hx2;clear hu2 hx2 hc;go_wp2_with fail;refine(HFO2.out u2 w2 HU2.out (Z2 HTX.out HX2.out)).mono ?_;rintro e w3 ⟨rfl,hx3⟩;obtain⟨f0,f1,f2,f3,f4,f5,f6,f7⟩:=Zj (I6 ((HX1.out.trans HX2.out).trans hx3));have hxw:=((HX1.out.trans HX2.out).trans hx3).before.before;clear hx3;go_wp2_with fail;refine E1 (Zi results35 rfl (Zk f7) rfl) rfl ?_;rw[HR1.out,HTB.out];exact CO
 rw[C0 hf]at HR1
 have HHD:Hid (∀x,cs[0]? =some x->x≠256):=A0 (fun x h e=>hf (by rw[KP,h,e]))
 clear hf
 by_cases h0:n=0
 ·obtain rfl:cs=[]:=L4 (by rw[<-HN.out];exact h0);subst h0;go_enter func35,ntmps35;go_wp2_with fail;refine(HD.out _ Xf).mono ?_;rintro e w1 ⟨u,rfl,hu,hx1⟩;obtain⟨hsl,au,cu,rfl,hcu⟩:=hu;have HX1:=A0 hx1;obtain⟨wm,hmk,hOm,hXm⟩:=fW w1 0 w1.heap.size B0 (K0 _);have hmk:(Instr.makeSlice 90 (.int .i64 0) (.int .i64 0)).run prog w1=_:=hmk;have hcv:=Zr (l:=[]) hOm.sl;have HF:Hid (res=some (8,[],[])):=A0 (by rw[HR1.out,C0 I0];rfl);obtain⟨f0,f1,f2,f3,f4,f5,f6,f7⟩:=Zj (I6 (HX1.out.trans hXm));have hxw:=(HX1.out.trans hXm).before.before;clear hx1 hsl hXm hOm HD;go_wp2_with fail;go_loopw [53] (fun t wr=>t=.int .i64 0∧wr=wm) (fun _ _=>0);(case atStart=>exact V6)
  case round=>
  obtain⟨rfl,rfl⟩:=hrel;exact iA
 ·have hnI:(0:Int)<(n:Int):=B0;obtain⟨x0,hx0⟩:∃x,cs[0]? =some x:=⟨_,M0 G5⟩;have z256:(x0==256)=false:=N0.2 (HHD.out x0 hx0);have HX0:=A0 hx0;clear hx0;go_enter func35,ntmps35;go_wp2_with fail;refine(HD.out _ Xf).mono ?_;rintro e w1 ⟨u,rfl,hu,hx1⟩;obtain⟨hsl,au,cu,rfl,hcu⟩:=hu;rw[J0,<-HN.out]at hsl hcu⊢;obtain⟨b,o,ha,hb,hc⟩:=hsl.int_at (Ext.refl w1) HX0.out;subst ha;rw[Y4]at hc;have HX1:=A0 hx1;have HS:=A0 hsl;obtain⟨wm,hmk,hOm,hXm⟩:=fW w1 n w1.heap.size B0 (K0 _);have HOm:=A0 hOm;have HXm:=A0 hXm;clear hx1 hsl hXm hOm HD;go_wp2_with fail;go_loopw [53] (fun t wr=>∃j:Nat,j<=n∧t=.int .i64 (j:Int)∧Hid (∀x∈cs.take j,x<128)∧Hid (Own 5 wr w1.heap.size (.slice (some ⟨w1.heap.size,0,none⟩) n n) (((cs.take j).map chB++List.replicate (n-j) (0:UInt8)).map encB))∧Hid (Ext w1 wr)) (fun t _=>n-(intOf t).toNat);(case atStart=>exact⟨0,O0 _,rfl,A0 (fun x hx=>by simp at hx),by simpa using HOm,HXm⟩)
  case round=>
  clear HOm HXm hmk;obtain⟨j,hj,rfl,HB,HO,HX⟩:=hrel;by_cases hlt:j<n;(·obtain⟨x,hxj⟩:∃x,cs[j]? =some x:=⟨_,M0 J4⟩;obtain⟨b',o',ha,hb',hcj⟩:=HS.out.int_at HX.out hxj;injection ha with ha;injection ha with h1 h2;subst h1 h2;have hjI:(j:Int)<(n:Int):=B0;have hxg:=HC0.out x (J1 hxj);by_cases hx:x<128;(·have hbx:((chB x).toNat:Int)=x:=(by unfold chB;exact RV);obtain⟨xo,co,fo⟩:=HO.out.byteAt (i:=j) (by rw[T0,J0,M1,D3,<-HN.out];omega);have hO9:=HO.out.putB j (chB x);rw[Zj2 chB HN.out.symm hxj]at hO9;unfold encB at hO9;rw[hbx]at hO9;have HO9:=A0 hO9;have HB2:Hid (∀y∈cs.take (j+1),y<128):=A0 (fun y hy=>by rw[Zz hxj]at hy;rcases B5.1 hy with h|h;(·exact XW);·rw[U3]at h;subst h;exact hx);have hxI:¬128<=x:=B0;clear hxj hO9 hbx;go_wp2_with fail;go_roundw;(case rel=>exact⟨j+1,by omega,by go_num,HB2,HO9,A0 (HX.out.setCell (p:=⟨w1.heap.size,j,none⟩) (K0 _) _)⟩);case measure=>exact C1);·have HF:Hid (res=none):=A0 iB;have hxI:128<=x:=B0;obtain⟨f0,f1,f2,f3,f4,f5,f6,f7⟩:=Zj (I6 (HX1.out.trans HX.out));have hxw:=(HX1.out.trans HX.out).before.before;clear hxj hx;exact fX);·obtain rfl:n=j:=B0;have HF:Hid (res=some (8,cs.map chB,[])):=A0 iC;have hO:=HO.out;rw[I4,UR,P3,X1 A6]at hO;have hcv:=Zr hO.sl;obtain⟨f0,f1,f2,f3,f4,f5,f6,f7⟩:=Zj (I6 (HX1.out.trans HX.out));have hxw:=(HX1.out.trans HX.out).before.before;clear hO hlt hj;exact iA
def rdrs:Array Value:= #[.func (.func 34) #[] #[],.func (.func 35) #[] #[],.func (.func 36) #[] #[],.func (.func 37) #[] #[],.func (.func 38) #[] #[]]
def DecL (w:World) (m:List Bool) (tn ti:Value) (wr:World):Prop:=∃(i n:Nat) (x:Ln.Lin) (t1 t2:TypeId),i<=5∧ti=.int .i64 (i:Int)∧tn=.int .i64 (n:Int)∧n<=i∧Hid (Ln.found m i=(n,x))∧
 Hid (wr.heap[w.heap.size]? =some (.cells #[.int .i64 0,.string ⟨#[]⟩,.string ⟨#[]⟩] 33 (0,0)))∧Hid (wr.heap[w.heap.size+1]? =some (.cells rdrs t1 (0,0)))∧Hid (wr.heap[w.heap.size+2]? =some (.cells #[.int .i64 x.1,.string (Ea.bS x.2.1),.string (Ea.bS x.2.2)] t2 (0,0)))∧Hid (Ext w wr)
theorem Zoh {w:World} {b:Nat} {t:TypeId} (h:w.heap[b]? =some (.cells rdrs t (0,0))):w.cell? ⟨b,0,none⟩=some (.func (.func 34) #[] #[])∧w.cell? ⟨b,1,none⟩=some (.func (.func 35) #[] #[])∧w.cell? ⟨b,2,none⟩=some (.func (.func 36) #[] #[])∧w.cell? ⟨b,3,none⟩=some (.func (.func 37) #[] #[])∧w.cell? ⟨b,4,none⟩=some (.func (.func 38) #[] #[]):=
 ⟨Zw h rfl,Zw h rfl,Zw h rfl,Zw h rfl,Zw h rfl⟩
theorem WU (m:List Bool) (i:Nat):Ln.found m (i+1)=match Ln.reader i m with|none=>Ln.found m i|some x=>((Ln.found m i).1+1,x):=rfl
theorem iD (v:Value) (m:List Bool) (w:World) (hv:SlK w v (m.map encT)) (hm:m.length<=1000000) (ht:ZY w):
 Calls prog 13 #[v] w fun e w'=>e=.returned (gotV (Ln.decode m))∧Ext w w':=by
 have HT:=A0 ht
 have HCT:=A0 (fun w' (h:Ext w w')=>fV v m w' (hv.ext h).1 hm)
 have HR0:=A0 (fun w' (h:Ext w w')=>ZlI v m w' (hv.ext h) hm)
 have HR1:=A0 (fun(h2:m.length<=65536) w' (h:Ext w w')=>ZlG v m w' (hv.ext h) B0 (Z2 HT.out h))
 have HR2:=A0 (fun w' (h:Ext w w')=>Znk v m w' (hv.ext h) hm)
 have HR3:=A0 (fun w' (h:Ext w w')=>ZlH v m w' (hv.ext h) hm)
 have HR4:=A0 (fun w' (h:Ext w w')=>ZlJ v m w' (hv.ext h) hm)
 have HD:=A0 (Ln.decode.eq_1 m)
 generalize Ln.decode m=res at*
 obtain⟨-,a,c,rfl,-⟩:=hv
 rw[J0]at HCT HR0 HR1 HR2 HR3 HR4⊢
 generalize m.length=ml at*
 by_cases h4:65536<ml
 ·have h4I:65536<(ml:Int):=B0;rw[D0 h4]at HD;clear h4 HR0 HR1 HR2 HR3 HR4 HCT;go_enter func13,ntmps13;exact iE
 have h4I:¬65536<(ml:Int):=by omega
 rw[C0 h4]at HD
 have HR1:=A0 (HR1.out B0)
 cases hdk:Ln.dark m with
 |false=>rw[hdk]at HCT HD;rw[D0 rfl]at HD;clear h4 HR0 HR1 HR2 HR3 HR4 hdk;go_enter func13,ntmps13;go_wp2_with fail;refine(HCT.out _ Xf).mono ?_;rintro e w1 ⟨rfl,rfl⟩;exact iE
 |true=>
 rw[hdk]at HCT HD
 rw[C0 I0]at HD
 clear h4 hdk
 go_enter func13,ntmps13
 go_wp2_with fail
 refine(HCT.out _ Xf).mono ?_
 rintro e w1 ⟨rfl,rfl⟩
 go_wp2_with fail
 go_loopw [6,22] (fun tn ti wr=>DecL w m tn ti wr) (fun _ t _=>5-(intOf t).toNat)
 case atStart=>have h1:(((w.alloc (.cells #[.int .i64 0,.string ⟨#[]⟩,.string ⟨#[]⟩] 33)).alloc (.cells rdrs 60)).alloc (.cells #[.int .i64 0,.string ⟨#[]⟩,.string ⟨#[]⟩] 33)).heap[w.heap.size+1]? =some (.cells rdrs 60 (0,0)):=Ze (Zv (w:=w.alloc _) L0 (Ext.refl _)) ((Ext.refl _).alloc _);have h2:(((w.alloc (.cells #[.int .i64 0,.string ⟨#[]⟩,.string ⟨#[]⟩] 33)).alloc (.cells rdrs 60)).alloc (.cells #[.int .i64 0,.string ⟨#[]⟩,.string ⟨#[]⟩] 33)).heap[w.heap.size+2]? =some (.cells #[.int .i64 0,.string ⟨#[]⟩,.string ⟨#[]⟩] 33 (0,0)):=Zv (w:=(w.alloc _).alloc _) L0 (Ext.refl _);exact⟨0,0,Ln.zero,60,33,O0 _,rfl,rfl,O0 _,A0 rfl,A0 (Ze (L2 w _) (((Ext.refl _).alloc _).alloc _)),A0 h1,A0 h2,A0 ((((Ext.refl _).alloc _).alloc _).alloc _)⟩
 case round=>
 obtain⟨i,n,x,t1,t2,hi,rfl,rfl,hni,HF,HB0,HB1,HB2,HX⟩:=hrel
 obtain⟨k0,s0,a0⟩:=x
 dsimp only at HB2
 by_cases hlt:i<5
 ·have hnc:(n:Int)<=5:=B0;obtain⟨r0,r1,r2,r3,r4⟩:=Zoh HB1.out;have hfs:w.heap.size+1<wr.heap.size:=(O3.1 HB1.out).1;rcases(by omega:i=0∨i=1∨i=2∨i=3∨i=4)with rfl|rfl|rfl|rfl|rfl
  ·obtain⟨o,ho⟩:∃o,o=Ln.reader 0 m:=⟨_,rfl⟩
   have HO:=A0 ho
   have HRR:Hid (Calls prog 34 #[.agg #[.slice a ml c]] wr (RdR o wr)):=A0 (by rw[ho];exact HR0.out wr HX.out)
   clear ho
   go_wp2_with fail
   refine HRR.out.mono ?_
   rintro e w2 ⟨⟨k,s,ad⟩,rfl,hox,hx2⟩
   have HOX:=A0 hox
   have HX2:=A0 (HX.out.trans hx2)
   have HB02:=A0 (Ze HB0.out hx2)
   have HB12:=A0 (Ze HB1.out hx2)
   obtain⟨f0,f1,f2,f3,f4,f5,f6,f7⟩:=Zj (Ze HB2.out hx2)
   unfold linV
   dsimp only
   clear hox hx2 r0 r1 r2 r3 r4
   obtain⟨bo,hbo⟩:∃bo,bo=o.isSome:=⟨_,rfl⟩
   have HBO:=A0 hbo
   rw[<-hbo]
   clear hbo
   cases bo with
   |true=>have HF2:Hid (Ln.found m (0+1)=(n+1,(k,s,ad))):=A0 TL;go_wp2_with fail;go_roundw;(case rel=>exact⟨0+1,n+1,(k,s,ad),t1,t2,by omega,by go_num,by go_num,by omega,HF2,A0 (Ze (Zs B0 (Zs B0 (Zs B0 HB02.out))) ((Ext.refl _).alloc _)),A0 (Ze (Zs B0 (Zs B0 (Zs B0 HB12.out))) ((Ext.refl _).alloc _)),A0 (Ze (Zk f7) ((Ext.refl _).alloc _)),A0 ((Zo HX2.out B0 _ _ _).alloc _)⟩);case measure=>exact C1
   |false=>
    have HF2:Hid (Ln.found m (0+1)=(n,(k0,s0,a0))):=A0 (by
     rw[WU,<-HO.out]
     cases o with
     |some y=>have:=HBO.out;cases this
     |none=>exact HF.out)
    go_wp2_with fail;go_roundw;(case rel=>exact⟨0+1,n,(k0,s0,a0),t1,t2,by omega,by go_num,rfl,by omega,HF2,A0 (Ze HB02.out ((Ext.refl _).alloc _)),A0 (Ze HB12.out ((Ext.refl _).alloc _)),A0 (Ze f7.out ((Ext.refl _).alloc _)),A0 (HX2.out.alloc _)⟩);case measure=>exact C1
  ·obtain⟨o,ho⟩:∃o,o=Ln.reader 1 m:=⟨_,rfl⟩
   have HO:=A0 ho
   have HRR:Hid (Calls prog 35 #[.agg #[.slice a ml c]] wr (RdR o wr)):=A0 (by rw[ho];exact HR1.out wr HX.out)
   clear ho
   go_wp2_with fail
   refine HRR.out.mono ?_
   rintro e w2 ⟨⟨k,s,ad⟩,rfl,hox,hx2⟩
   have HOX:=A0 hox
   have HX2:=A0 (HX.out.trans hx2)
   have HB02:=A0 (Ze HB0.out hx2)
   have HB12:=A0 (Ze HB1.out hx2)
   obtain⟨f0,f1,f2,f3,f4,f5,f6,f7⟩:=Zj (Ze HB2.out hx2)
   unfold linV
   dsimp only
   clear hox hx2 r0 r1 r2 r3 r4
   obtain⟨bo,hbo⟩:∃bo,bo=o.isSome:=⟨_,rfl⟩
   have HBO:=A0 hbo
   rw[<-hbo]
   clear hbo
   cases bo with
   |true=>have HF2:Hid (Ln.found m (1+1)=(n+1,(k,s,ad))):=A0 TL;go_wp2_with fail;go_roundw;(case rel=>exact⟨1+1,n+1,(k,s,ad),t1,t2,by omega,by go_num,by go_num,by omega,HF2,A0 (Ze (Zs B0 (Zs B0 (Zs B0 HB02.out))) ((Ext.refl _).alloc _)),A0 (Ze (Zs B0 (Zs B0 (Zs B0 HB12.out))) ((Ext.refl _).alloc _)),A0 (Ze (Zk f7) ((Ext.refl _).alloc _)),A0 ((Zo HX2.out B0 _ _ _).alloc _)⟩);case measure=>exact C1
   |false=>
    have HF2:Hid (Ln.found m (1+1)=(n,(k0,s0,a0))):=A0 (by
     rw[WU,<-HO.out]
     cases o with
     |some y=>have:=HBO.out;cases this
     |none=>exact HF.out)
    go_wp2_with fail;go_roundw;(case rel=>exact⟨1+1,n,(k0,s0,a0),t1,t2,by omega,by go_num,rfl,by omega,HF2,A0 (Ze HB02.out ((Ext.refl _).alloc _)),A0 (Ze HB12.out ((Ext.refl _).alloc _)),A0 (Ze f7.out ((Ext.refl _).alloc _)),A0 (HX2.out.alloc _)⟩);case measure=>exact C1
  ·obtain⟨o,ho⟩:∃o,o=Ln.reader 2 m:=⟨_,rfl⟩
   have HO:=A0 ho
   have HRR:Hid (Calls prog 36 #[.agg #[.slice a ml c]] wr (RdR o wr)):=A0 (by rw[ho];exact HR2.out wr HX.out)
   clear ho
   go_wp2_with fail
   refine HRR.out.mono ?_
   rintro e w2 ⟨⟨k,s,ad⟩,rfl,hox,hx2⟩
   have HOX:=A0 hox
   have HX2:=A0 (HX.out.trans hx2)
   have HB02:=A0 (Ze HB0.out hx2)
   have HB12:=A0 (Ze HB1.out hx2)
   obtain⟨f0,f1,f2,f3,f4,f5,f6,f7⟩:=Zj (Ze HB2.out hx2)
   unfold linV
   dsimp only
   clear hox hx2 r0 r1 r2 r3 r4
   obtain⟨bo,hbo⟩:∃bo,bo=o.isSome:=⟨_,rfl⟩
   have HBO:=A0 hbo
   rw[<-hbo]
   clear hbo
   cases bo with
   |true=>have HF2:Hid (Ln.found m (2+1)=(n+1,(k,s,ad))):=A0 TL;go_wp2_with fail;go_roundw;(case rel=>exact⟨2+1,n+1,(k,s,ad),t1,t2,by omega,by go_num,by go_num,by omega,HF2,A0 (Ze (Zs B0 (Zs B0 (Zs B0 HB02.out))) ((Ext.refl _).alloc _)),A0 (Ze (Zs B0 (Zs B0 (Zs B0 HB12.out))) ((Ext.refl _).alloc _)),A0 (Ze (Zk f7) ((Ext.refl _).alloc _)),A0 ((Zo HX2.out B0 _ _ _).alloc _)⟩);case measure=>exact C1
   |false=>
    have HF2:Hid (Ln.found m (2+1)=(n,(k0,s0,a0))):=A0 (by
     rw[WU,<-HO.out]
     cases o with
     |some y=>have:=HBO.out;cases this
     |none=>exact HF.out)
    go_wp2_with fail;go_roundw;(case rel=>exact⟨2+1,n,(k0,s0,a0),t1,t2,by omega,by go_num,rfl,by omega,HF2,A0 (Ze HB02.out ((Ext.refl _).alloc _)),A0 (Ze HB12.out ((Ext.refl _).alloc _)),A0 (Ze f7.out ((Ext.refl _).alloc _)),A0 (HX2.out.alloc _)⟩);case measure=>exact C1
  ·obtain⟨o,ho⟩:∃o,o=Ln.reader 3 m:=⟨_,rfl⟩
   have HO:=A0 ho
   have HRR:Hid (Calls prog 37 #[.agg #[.slice a ml c]] wr (RdR o wr)):=A0 (by rw[ho];exact HR3.out wr HX.out)
   clear ho
   go_wp2_with fail
   refine HRR.out.mono ?_
   rintro e w2 ⟨⟨k,s,ad⟩,rfl,hox,hx2⟩
   have HOX:=A0 hox
   have HX2:=A0 (HX.out.trans hx2)
   have HB02:=A0 (Ze HB0.out hx2)
   have HB12:=A0 (Ze HB1.out hx2)
   obtain⟨f0,f1,f2,f3,f4,f5,f6,f7⟩:=Zj (Ze HB2.out hx2)
   unfold linV
   dsimp only
   clear hox hx2 r0 r1 r2 r3 r4
   obtain⟨bo,hbo⟩:∃bo,bo=o.isSome:=⟨_,rfl⟩
   have HBO:=A0 hbo
   rw[<-hbo]
   clear hbo
   cases bo with
   |true=>have HF2:Hid (Ln.found m (3+1)=(n+1,(k,s,ad))):=A0 TL;go_wp2_with fail;go_roundw;(case rel=>exact⟨3+1,n+1,(k,s,ad),t1,t2,by omega,by go_num,by go_num,by omega,HF2,A0 (Ze (Zs B0 (Zs B0 (Zs B0 HB02.out))) ((Ext.refl _).alloc _)),A0 (Ze (Zs B0 (Zs B0 (Zs B0 HB12.out))) ((Ext.refl _).alloc _)),A0 (Ze (Zk f7) ((Ext.refl _).alloc _)),A0 ((Zo HX2.out B0 _ _ _).alloc _)⟩);case measure=>exact C1
   |false=>
    have HF2:Hid (Ln.found m (3+1)=(n,(k0,s0,a0))):=A0 (by
     rw[WU,<-HO.out]
     cases o with
     |some y=>have:=HBO.out;cases this
     |none=>exact HF.out)
    go_wp2_with fail;go_roundw;(case rel=>exact⟨3+1,n,(k0,s0,a0),t1,t2,by omega,by go_num,rfl,by omega,HF2,A0 (Ze HB02.out ((Ext.refl _).alloc _)),A0 (Ze HB12.out ((Ext.refl _).alloc _)),A0 (Ze f7.out ((Ext.refl _).alloc _)),A0 (HX2.out.alloc _)⟩);case measure=>exact C1
  ·obtain⟨o,ho⟩:∃o,o=Ln.reader 4 m:=⟨_,rfl⟩
   have HO:=A0 ho
   have HRR:Hid (Calls prog 38 #[.agg #[.slice a ml c]] wr (RdR o wr)):=A0 (by rw[ho];exact HR4.out wr HX.out)
   clear ho
   go_wp2_with fail
   refine HRR.out.mono ?_
   rintro e w2 ⟨⟨k,s,ad⟩,rfl,hox,hx2⟩
   have HOX:=A0 hox
   have HX2:=A0 (HX.out.trans hx2)
   have HB02:=A0 (Ze HB0.out hx2)
   have HB12:=A0 (Ze HB1.out hx2)
   obtain⟨f0,f1,f2,f3,f4,f5,f6,f7⟩:=Zj (Ze HB2.out hx2)
   unfold linV
   dsimp only
   clear hox hx2 r0 r1 r2 r3 r4
   obtain⟨bo,hbo⟩:∃bo,bo=o.isSome:=⟨_,rfl⟩
   have HBO:=A0 hbo
   rw[<-hbo]
   clear hbo
   cases bo with
   |true=>have HF2:Hid (Ln.found m (4+1)=(n+1,(k,s,ad))):=A0 TL;go_wp2_with fail;go_roundw;(case rel=>exact⟨4+1,n+1,(k,s,ad),t1,t2,by omega,by go_num,by go_num,by omega,HF2,A0 (Ze (Zs B0 (Zs B0 (Zs B0 HB02.out))) ((Ext.refl _).alloc _)),A0 (Ze (Zs B0 (Zs B0 (Zs B0 HB12.out))) ((Ext.refl _).alloc _)),A0 (Ze (Zk f7) ((Ext.refl _).alloc _)),A0 ((Zo HX2.out B0 _ _ _).alloc _)⟩);case measure=>exact C1
   |false=>
    have HF2:Hid (Ln.found m (4+1)=(n,(k0,s0,a0))):=A0 (by
     rw[WU,<-HO.out]
     cases o with
     |some y=>have:=HBO.out;cases this
     |none=>exact HF.out)
    go_wp2_with fail;go_roundw;(case rel=>exact⟨4+1,n,(k0,s0,a0),t1,t2,by omega,by go_num,rfl,by omega,HF2,A0 (Ze HB02.out ((Ext.refl _).alloc _)),A0 (Ze HB12.out ((Ext.refl _).alloc _)),A0 (Ze f7.out ((Ext.refl _).alloc _)),A0 (HX2.out.alloc _)⟩);case measure=>exact C1
 ·obtain rfl:i=5:=B0;have HD2:Hid (res=Ln.outcome (n,(k0,s0,a0))):=A0 (by rw[HD.out,HF.out]);obtain⟨f0,f1,f2,f3,f4,f5,f6,f7⟩:=Zj HB0.out;obtain⟨g0,g1,g2,g3,g4,g5,g6,g7⟩:=Zj HB2.out;unfold Ln.outcome at HD2;dsimp only at HD2;by_cases h0:n=0;(·rw[D0 h0]at HD2;subst h0;exact AP);have z0:((n:Int)==0)=false:=N0.2 B0;rw[C0 h0]at HD2;by_cases h1:1<n;(·have h1I:1<(n:Int):=B0;rw[D0 h1]at HD2;exact AP);·have h1I:¬1<(n:Int):=B0;rw[C0 h1]at HD2;exact AP
theorem iF {l:List Int} (h:(Rn.modules l).2=0):1<=(Rn.modules l).1.length∧(Rn.modules l).1.length<=65536∧0<=Rn.sum l∧Rn.sum l<=65536:=by
 unfold Rn.modules at h⊢
 by_cases h0:l.length=0
 ·exact SW
 rw[C0 h0]at h⊢
 by_cases h1:l.length%2=0
 ·exact VV
 rw[C0 h1]at h⊢
 cases h2:Tw.inRng l with
 |false=>rw[h2,D0 rfl]at h;cases h
 |true=>
 rw[h2,C0 I0]at h
 by_cases h3:65536<Rn.sum l
 ·rw[D0 h3]at h;cases h
 rw[C0 I0,C0 h3]
 have hin:=fun x hx=>YO h2 (x:=x) hx
 have h4:=Rn.mods_len l true (fun x hx=>(hin x hx).1)
 have h5:=Rn.sum_pos l (fun x hx=>(hin x hx).1)
 dsimp only
 omega
theorem iG (ws:List Int):∀l∈Ln.cands ws,l.length<=ws.length:=by
 intro l hl;unfold Ln.cands at hl;rcases V3.1 hl with rfl|hl;·rw[J0];exact W9
 rcases B5.1 hl with hl|hl
 ·have:∀ts:List Int,l∈Ln.quants ws ts->l.length<=ws.length:=by
   intro ts
   induction ts with
   |nil=>intro h;cases h
   |cons t ts ih=>intro h;rw[Ln.quants]at h;rcases B5.1 h with h|h;(·split at h;(·rename_i h2;rw[U3]at h;subst h;exact Nat.le_of_eq (Rn.quant_sum h2).2.1);·cases h);·exact ih h
  exact this _ hl
 ·unfold Ln.wides at hl;split at hl;(·rw[U3]at hl;subst hl;rw[J0];exact bU ws);·cases hl
theorem iH (ws:List Int):(Ln.cands ws).length<=4:=by
 have h1:∀ts:List Int,(Ln.quants ws ts).length<=ts.length:=by
  intro ts
  induction ts with
  |nil=>exact K0 _
  |cons t ts ih=>rw[Ln.quants,T0,D1];split;(·rw[YS];omega);·rw[O4];omega
 have h2:(Ln.totals ws.length).length<=2:=by unfold Ln.totals;rw[T0];have a1:(if ws.length=59 then [(95:Int)]else if ws.length=43 then [67]else if ws.length=33 then [51]else []).length<=1:=(by split;(·exact W9);·split;(·exact W9);·exact KQ);have a2:(if 13<=ws.length∧(ws.length-7)%6=0 then [Ln.total11 ws.length]else []).length<=1:=KQ;omega
 have h3:(Ln.wides ws).length<=1:=by unfold Ln.wides;exact KQ
 have:=h1 (Ln.totals ws.length);unfold Ln.cands;rw[D1,T0];omega
theorem iI {left right s:Int} {ls:List (List Int)} {j:Nat} {l:List Int} (h:ls[j]? =some l):Ln.tryGo left right s (ls.drop j)=if(Rn.modules l).2=0∧(Ln.decode (Ln.rowOf l left right s)).2=0 then some (Ln.decode (Ln.rowOf l left right s)).1 else Ln.tryGo left right s (ls.drop (j+1)):=by obtain⟨h1,h2⟩:=I1.1 h;rw[C5 h1,h2,Ln.tryGo]
theorem iJ (v:Value) (ws:List Int) (left right:Nat) (w:World) (hv:Sl w v (ws.map encI)) (hne:ws≠ []) (hl:ws.length<=65536) (hw:∀x∈ws,1<=x∧x<=65536) (hle:left<=65536) (hri:right<=65536) (ht:ZY w):
 Calls prog 43 #[v,.int .i64 (left:Int),.int .i64 (right:Int)] w (RdR (Ln.try_ ws left right) w):=by
 have HT:=A0 ht
 have HCN:=A0 (fun w' (h:Ext w w')=>Zf9 v ws w' (hv.ext h) hne hl hw)
 have HCL:=A0 (iG ws)
 have hcn:=iH ws
 have hpos:1<=ws.length:=T6.2 hne
 have hsb:=Rn.sum_in hw
 have hsp:=Rn.sum_pos ws (fun x hx=>(hw x hx).1)
 obtain⟨res,hres⟩:∃res,res=Ln.try_ ws left right:=⟨_,rfl⟩
 rw[<-hres]
 unfold Ln.try_ at hres
 obtain⟨ls,hls⟩:∃ls,ls=Ln.cands ws:=⟨_,rfl⟩
 rw[<-hls]at HCN HCL hres hcn
 obtain⟨SM,hSM⟩:∃SM,SM=Rn.sum ws:=⟨_,rfl⟩
 rw[<-hSM]at hres hsb hsp
 have HR0:Hid (res=Ln.tryGo left right SM (ls.drop 0)):=A0 hres
 obtain⟨a,c,rfl⟩:=hv.form
 rw[J0]at hv HCN⊢
 obtain⟨n,hn⟩:∃n,n=ws.length:=⟨_,rfl⟩
 rw[<-hn]at hv hl HCN HCL hpos hsp hsb⊢
 have HN:=A0 hn
 have HV:=A0 hv
 have HS:=A0 hSM
 have HIN:=A0 hw
 have hs0:1<=SM:=by omega
 have hs1:SM<=4294967296:=by have:=hsb.2;omega
 clear hv hw hne hn hSM hsb hsp hres hls
 obtain⟨w0,hw0⟩:∃w0,w0=w.alloc (.cells #[.int .i64 0,.string ⟨#[]⟩,.string ⟨#[]⟩] 33):=⟨_,rfl⟩
 have HX0:Hid (Ext w w0):=A0 AQ
 have HB0:Hid (w0.heap[w.heap.size]? =some (.cells #[.int .i64 0,.string ⟨#[]⟩,.string ⟨#[]⟩] 33 (0,0))):=A0 AR
 have HW0:=A0 hw0
 clear hw0
 go_enter func43,ntmps43
 go_wp2_with fail
 rw[<-HW0.out]
 go_loop [8,20] (fun s i=>∃(j:Nat) (t:Int),j<=n∧i=.int .i64 (j:Int)∧s=.int .i64 t∧0<=t∧t<=65536*(j:Int)∧Hid (t=Rn.sum (ws.take j))) (fun _ i=>n-(intOf i).toNat)
 case atStart=>exact UQ
 case round=>
 obtain⟨j,t,hj,rfl,rfl,ht0,ht1,HTS⟩:=hrel
 by_cases hlt:j<n
 ·obtain⟨x,hxj⟩:∃x,ws[j]? =some x:=⟨_,M0 J4⟩;obtain⟨b,o,ha,hb,hc⟩:=HV.out.int_at HX0.out hxj;subst ha;have hjI:(j:Int)<(n:Int):=B0;obtain⟨hx1,hx2⟩:=HIN.out x (J1 hxj);have HT2:Hid (t+x=Rn.sum (ws.take (j+1))):=A0 (by rw[Zz hxj,Rn.sum_snoc,<-HTS.out]);exact iK
 obtain rfl:n=j:=by omega
 obtain rfl:SM=t:=by have h2:=HTS.out;exact bV
 clear hj hlt HTS ht0 ht1
 go_wp2_with fail
 refine(HCN.out w0 HX0.out).mono ?_
 rintro e w1 ⟨u,rfl,hu,hx1⟩
 obtain⟨cb,cc,xs,rfl,hcb,hhs,hcc⟩:=hu
 have HHS:=A0 hhs
 have HCC:=A0 hcc
 have HB1:=A0 (Ze HB0.out hx1)
 have HX1:=A0 (HX0.out.trans hx1)
 clear hhs hcc hx1
 obtain⟨k,hk⟩:∃k,k=ls.length:=⟨_,rfl⟩
 rw[<-hk]
 have HK:=A0 hk
 have hk4:k<=4:=by omega
 clear hk hcn
 go_wp2_with fail
 go_loopw [31] (fun t wr=>∃j:Nat,j<=k∧t=.int .i64 (j:Int)∧Hid (res=Ln.tryGo left right SM (ls.drop j))∧Hid (wr.heap[w.heap.size]? =some (.cells #[.int .i64 0,.string ⟨#[]⟩,.string ⟨#[]⟩] 33 (0,0)))∧Hid (Ext w1 wr)) (fun t _=>k-(intOf t).toNat)
 case atStart=>exact⟨0,O0 _,rfl,by rw[<-HS.out]at*;exact HR0,HB1,A0 (Ext.refl _)⟩
 case round=>
 clear HR0 HB1
 obtain⟨j,hj,rfl,HR,HB,HX⟩:=hrel
 by_cases hlt:j<k
 ·have hjI:(j:Int)<(k:Int):=B0;obtain⟨l,hlj⟩:∃l,ls[j]? =some l:=⟨_,M0 (by rw[<-HK.out];exact hlt)⟩;obtain⟨x,hxj⟩:∃x,xs[j]? =some x:=⟨_,M0 (by rw[HHS.out.1,<-HK.out];exact hlt)⟩;obtain⟨hx2,hxl,hown⟩:=HHS.out.2 j x l hxj hlj;obtain⟨c0,c1⟩:=HCC.out j x hxj;obtain⟨⟨xa,xn,xc⟩,xt⟩:=x;dsimp only at hx2 hxl;subst hx2 hxl;unfold cdV at c0 hown;dsimp only at c0 c1 hown;have hcb2:=hcb;have c0:=(HX.out.cell (p:=⟨cb,j*2,none⟩) hcb2).trans c0;have c1:=(HX.out.cell (p:=⟨cb,j*2+1,none⟩) hcb2).trans c1;have hll:l.length<=1000000:=iL;have HMO:=A0 (fun w' (h:Ext w1 w')=>ZgJ (.slice xa l.length xc) l w' ((hown.slk.1).ext h) hll);have HTA:=A0 (iI (left:=left) (right:=right) (s:=SM) hlj);have HOK:=A0 (@iF l);have HRO:=A0 (show Ln.rowOf l left right SM=Ln.quiet (Rn.modules l).1 (min 64 ((left:Int)*Rn.sum l/SM)).toNat (min 64 ((right:Int)*Rn.sum l/SM)).toNat from rfl);obtain⟨⟨ms,me⟩,hms⟩:∃r,r=Rn.modules l:=⟨_,rfl⟩;rw[<-hms]at HMO HTA HOK HRO;dsimp only at HTA HOK HRO;clear hown hms hxj;go_wp2_with fail;refine(HMO.out _ (HX.out.alloc _)).mono ?_;rintro e w2 ⟨u,rfl,hu,hx2⟩;dsimp only at hu⊢;have HX2:=A0 ((HX.out.alloc _).trans hx2);have HB2:=A0 (Ze (Ze HB.out ((Ext.refl _).alloc _)) hx2);have HC2:=A0 (Ze (L2 wr _) hx2);obtain⟨hsl,au,cu,rfl,-⟩:=hu;rw[J0]at hsl⊢;have HU:=A0 hsl;clear hsl hx2;by_cases hme:me=0;(·subst hme;obtain⟨hm1,hm2,ht0,ht1⟩:=HOK.out rfl;obtain⟨-,e0,e1,e2,e3⟩:=TA HC2.out;obtain⟨tot,htot⟩:∃tot,tot=Rn.sum l:=⟨_,rfl⟩;rw[<-htot]at ht0 ht1 e1 HRO;have HTOT:=A0 htot.symm;clear htot;obtain⟨A,hA⟩:∃A,A=(min 64 ((left:Int)*tot/SM)).toNat:=⟨_,rfl⟩;obtain⟨B,hB⟩:∃B,B=(min 64 ((right:Int)*tot/SM)).toNat:=⟨_,rfl⟩;rw[<-hA,<-hB]at HRO;obtain⟨pl,hpl⟩:∃p,p=(left:Int)*tot:=⟨_,rfl⟩;have hple:=hpl.symm;have hpl0:0<=pl:=(by rw[hpl];exact KR);have hpl1:pl<=65536*65536:=(by rw[hpl];exact KS);obtain⟨ql,hql⟩:∃q,q=pl/SM:=⟨_,rfl⟩;have hql0:0<=ql:=(by rw[hql];exact WL hpl0 B0);have hql1:ql<=65536*65536:=iM;have hqle:=hql.symm;have hplw:IntKind.i64.wrap pl=pl:=T3 _ B0;have hqlw:IntKind.i64.wrap ql=ql:=T3 _ B0;have hqlt:pl.tdiv SM=ql:=(by rw[hql,O9 hpl0]);have hAI:min ql 64=(A:Int):=KT;have hAJ:min 64 ql=(A:Int):=KT;have hA64:A<=64:=B0;obtain⟨pr,hpr⟩:∃p,p=(right:Int)*tot:=⟨_,rfl⟩;have hpre:=hpr.symm;have hpr0:0<=pr:=(by rw[hpr];exact KR);have hpr1:pr<=65536*65536:=(by rw[hpr];exact KS);obtain⟨qr,hqr⟩:∃q,q=pr/SM:=⟨_,rfl⟩;have hqr0:0<=qr:=(by rw[hqr];exact WL hpr0 B0);have hqr1:qr<=65536*65536:=iN;have hqre:=hqr.symm;have hprw:IntKind.i64.wrap pr=pr:=T3 _ B0;have hqrw:IntKind.i64.wrap qr=qr:=T3 _ B0;have hqrt:pr.tdiv SM=qr:=(by rw[hqr,O9 hpr0]);have hBI:min qr 64=(B:Int):=KU;have hBJ:min 64 qr=(B:Int):=KU;have hB64:B<=64:=B0;have HSU:=A0 (fun w' (h:Ext w2 w')=>Zh8 (.slice au ms.length cu) ms A B w' (HU.out.ext h) B0 hm1 B0 B0);have HQL:=A0 (EX ms A B);obtain⟨row,hrow⟩:∃row,row=Ln.quiet ms A B:=⟨_,rfl⟩;rw[<-hrow]at HRO HSU HQL;rw[HRO.out]at HTA;have hrl:row.length<=1000000:=(by rw[HQL.out];omega);obtain⟨ml,hml⟩:∃ml,ml=ms.length:=⟨_,rfl⟩;rw[<-hml]at HSU hm1 hm2⊢;have hSM0:SM≠0:=B0;have zSM:(SM==0)=false:=N0.2 hSM0;clear hA hB hrow hml;go_wp2_with fail;refine Zh 16 1 rfl [43,44,45,46,47,48,49,50,51,52,53,54,55,56,57,58] [[],[],[],[2],[1,3],[],[4,5],[6],[],[],[9],[8,10],[],[11,12],[13],[0,7,14]] G0 G0 ?_;apply Za;(·intro V w' hx hf;(with_reducible refine relAt_ops ?_);intro A' ρ hA hρ hcst hfun;have h13:ρ (.tmp 13)=.slice au ml cu:=(P0 hρ _).trans (evalMiss hA 13 rfl);exact relUpon_move (hk:=by rw[h13];exact⟨Ext.refl _,rfl⟩));apply Za;(·intro V w' hx hf;(with_reducible refine relAt_ops ?_);intro A' ρ hA hρ hcst hfun;have h1:ρ (.tmp 1)=.int .i64 (left:Int):=(P0 hρ _).trans (evalMiss hA 1 rfl);exact relUpon_move (hk:=by rw[h1];exact⟨Ext.refl _,rfl⟩));refine Zc (eqv (.pointer (some ⟨wr.heap.size,1,none⟩))) (Zg _) ?_ ?_;(·exact iO);refine Zc (eqv (.int .i64 tot)) (Zg _) ?_ ?_;(·intro V w' hx hf;(with_reducible refine relAt_ops ?_);intro A' ρ hA hρ hcst hfun;obtain⟨f45,_⟩:=hf;have h45:ρ (.tmp 45)=_:=(P0 hρ _).trans ((evalHit hA 45 rfl).trans f45);obtain⟨-,-,g1,-,-⟩:=TA (Ze HC2.out hx);rw[HTOT.out]at g1;simp[relUpon,go_sem,Ext.refl,h45,g1];try rfl);refine Zc (eqv (.int .i64 pl)) (Zg _) ?_ ?_;(·intro V w' hx hf;(with_reducible refine relAt_ops ?_);intro A' ρ hA hρ hcst hfun;obtain⟨f44,f46,_⟩:=hf;have h44:ρ (.tmp 44)=_:=(P0 hρ _).trans ((evalHit hA 44 rfl).trans f44);have h46:ρ (.tmp 46)=_:=(P0 hρ _).trans ((evalHit hA 46 rfl).trans f46);simp[relUpon,go_sem,hcst,↓IntWalk.iteOmega,Ext.refl,h44,h46,hple,hplw];try rfl);apply Za;(·exact iP);refine Zc (eqv (.int .i64 ql)) (Zg _) ?_ ?_;(·intro V w' hx hf;(with_reducible refine relAt_ops ?_);intro A' ρ hA hρ hcst hfun;obtain⟨f47,f48,_⟩:=hf;have h47:ρ (.tmp 47)=_:=(P0 hρ _).trans ((evalHit hA 47 rfl).trans f47);have h48:ρ (.tmp 48)=_:=(P0 hρ _).trans ((evalHit hA 48 rfl).trans f48);simp[relUpon,go_sem,hcst,↓IntWalk.iteOmega,Ext.refl,h47,h48,hqle,hqlt,hqlw,zSM,hSM0];try rfl);refine Zc (eqv (.int .i64 (A:Int))) (Zg _) ?_ ?_;(·intro V w' hx hf;(with_reducible refine relAt_ops ?_);intro A' ρ hA hρ hcst hfun;obtain⟨f49,_⟩:=hf;have h49:ρ (.tmp 49)=_:=(P0 hρ _).trans ((evalHit hA 49 rfl).trans f49);simp[relUpon,go_sem,hcst,↓IntWalk.iteOmega,Ext.refl,h49,hAI,hAJ];try rfl);apply Za;(·intro V w' hx hf;(with_reducible refine relAt_ops ?_);intro A' ρ hA hρ hcst hfun;have h2:ρ (.tmp 2)=.int .i64 (right:Int):=(P0 hρ _).trans (evalMiss hA 2 rfl);exact relUpon_move (hk:=by rw[h2];exact⟨Ext.refl _,rfl⟩));refine Zc (eqv (.pointer (some ⟨wr.heap.size,1,none⟩))) (Zg _) ?_ ?_;(·exact iO);refine Zc (eqv (.int .i64 tot)) (Zg _) ?_ ?_;(·intro V w' hx hf;(with_reducible refine relAt_ops ?_);intro A' ρ hA hρ hcst hfun;obtain⟨f52,_⟩:=hf;have h52:ρ (.tmp 52)=_:=(P0 hρ _).trans ((evalHit hA 52 rfl).trans f52);obtain⟨-,-,g1,-,-⟩:=TA (Ze HC2.out hx);rw[HTOT.out]at g1;simp[relUpon,go_sem,Ext.refl,h52,g1];try rfl);refine Zc (eqv (.int .i64 pr)) (Zg _) ?_ ?_;(·intro V w' hx hf;(with_reducible refine relAt_ops ?_);intro A' ρ hA hρ hcst hfun;obtain⟨f51,f53,_⟩:=hf;have h51:ρ (.tmp 51)=_:=(P0 hρ _).trans ((evalHit hA 51 rfl).trans f51);have h53:ρ (.tmp 53)=_:=(P0 hρ _).trans ((evalHit hA 53 rfl).trans f53);simp[relUpon,go_sem,hcst,↓IntWalk.iteOmega,Ext.refl,h51,h53,hpre,hprw];try rfl);apply Za;(·exact iP);refine Zc (eqv (.int .i64 qr)) (Zg _) ?_ ?_;(·intro V w' hx hf;(with_reducible refine relAt_ops ?_);intro A' ρ hA hρ hcst hfun;obtain⟨f54,f55,_⟩:=hf;have h54:ρ (.tmp 54)=_:=(P0 hρ _).trans ((evalHit hA 54 rfl).trans f54);have h55:ρ (.tmp 55)=_:=(P0 hρ _).trans ((evalHit hA 55 rfl).trans f55);simp[relUpon,go_sem,hcst,↓IntWalk.iteOmega,Ext.refl,h54,h55,hqre,hqrt,hqrw,zSM,hSM0];try rfl);refine Zc (eqv (.int .i64 (B:Int))) (Zg _) ?_ ?_;(·intro V w' hx hf;(with_reducible refine relAt_ops ?_);intro A' ρ hA hρ hcst hfun;obtain⟨f56,_⟩:=hf;have h56:ρ (.tmp 56)=_:=(P0 hρ _).trans ((evalHit hA 56 rfl).trans f56);simp[relUpon,go_sem,hcst,↓IntWalk.iteOmega,Ext.refl,h56,hBI,hBJ];try rfl);refine Zc (fun v w=>SlK w v (row.map encT)) (fun _ _ _ h hx=>h.ext hx) ?_ ?_;(·intro V w' hx hf;(with_reducible refine relAt_ops ?_);intro A' ρ hA hρ hcst hfun;obtain⟨f43,f50,f57,_⟩:=hf;have h43:ρ (.tmp 43)=_:=(P0 hρ _).trans ((evalHit hA 43 rfl).trans f43);have h50:ρ (.tmp 50)=_:=(P0 hρ _).trans ((evalHit hA 50 rfl).trans f50);have h57:ρ (.tmp 57)=_:=(P0 hρ _).trans ((evalHit hA 57 rfl).trans f57);simp[relUpon,go_sem,hcst,hfun,h43,h50,h57];exact(HSU.out w' hx).mono fun e w'' ⟨u,he,hs,hy⟩=>⟨u,he,hy,hs⟩);intro V w3 hx3 hf;obtain⟨-,-,-,-,-,-,-,-,-,-,-,-,-,-,-,g58,-⟩:=hf;simp only[fillA,F1,O1,Act.put,V1,N1,L1];refine Zb 16 G0 rfl (fun K6 hK6=> ?_);go_simp;refine hK6 _ _ ?_;clear hK6 K6;refine⟨rfl,?_⟩;have hk58:SlK w3 (V 58) (row.map encT):=g58;have HB3:=A0 (Ze HB2.out hx3);have HX13:=A0 (HX2.out.trans hx3);have HX3:=A0 (HX1.out.trans HX13.out);clear g58 hx3;go_wp2_with fail;refine(iD (V 58) row w3 hk58 hrl (Z2 HT.out HX3.out)).mono ?_;rintro e w4 ⟨rfl,hx4⟩;have HB4:=A0 (Ze HB3.out hx4);have HX4:=A0 (HX3.out.trans hx4);have HX14:=A0 (HX13.out.trans hx4);obtain⟨⟨⟨rk,rt,ra⟩,re⟩,hre⟩:∃r,r=Ln.decode row:=⟨_,rfl⟩;rw[<-hre]at HTA⊢;unfold gotV linV;dsimp only at HTA⊢;obtain⟨f0,f1,f2,f3,f4,f5,f6,f7⟩:=Zj HB4.out;clear hre hx4 hk58;by_cases hre0:re=0;(·subst hre0;have HF:Hid (res=some (rk,rt,ra)):=A0 (by rw[HR.out,HTA.out,D0 L0]);go_wp2_with fail;refine E1 (Zi results43 rfl (Ze (Zk f7) ((Ext.refl _).alloc _)) rfl) rfl ?_;rw[HF.out];exact⟨(rk,rt,ra),rfl,(fun _=>rfl),(Zo HX4.out (K0 _) _ _ _).alloc _⟩);·have zre:(re==0)=false:=N0.2 hre0;have HR9:Hid (res=Ln.tryGo left right SM (ls.drop (j+1))):=A0 iQ;go_wp2_with fail;go_roundw;(case rel=>exact⟨j+1,by omega,by go_num,HR9,A0 (Ze f7.out ((Ext.refl _).alloc _)),A0 (HX14.out.alloc _)⟩);case measure=>exact C1);·have zme:(me !=0)=true:=(by simp[hme]);have zmd:decide (me=0)=false:=X0 hme;have HR9:Hid (res=Ln.tryGo left right SM (ls.drop (j+1))):=A0 iR;go_wp2_with fail;go_roundw;(case rel=>exact⟨j+1,by omega,by go_num,HR9,HB2,HX2⟩);case measure=>exact C1
 ·obtain rfl:k=j:=B0;have HF:Hid (res=none):=A0 iS;obtain⟨f0,f1,f2,f3,f4,f5,f6,f7⟩:=Zj HB.out;go_wp2_with fail;refine E1 (Zi results43 rfl (Zk f7) rfl) rfl ?_;rw[HF.out];exact RdR.none (Zo (HX1.out.trans HX.out) (K0 _) _ _ _)
end
end Go.Proofs.YtbngggoccndefaaGreatDoor
