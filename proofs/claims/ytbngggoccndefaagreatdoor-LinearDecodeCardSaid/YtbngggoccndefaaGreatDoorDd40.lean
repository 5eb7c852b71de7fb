/-
  Laid together.
-/
import Derived.Test.YtbngggoccndefaaGreatDoorDd15
import Derived.Test.YtbngggoccndefaaGreatDoorDd34
import Derived.Test.YtbngggoccndefaaGreatDoorDd39
set_option maxHeartbeats 16000000
set_option maxRecDepth 100000
set_option linter.unusedVariables false
set_option linter.unusedSimpArgs false
set_option linter.ambiguousOpen false
namespace Go.Proofs.YtbngggoccndefaaGreatDoor
open Go.Proofs.Tryz
section
open Go.RowKit
def clsW (ws:List Bool):List Int:=ws.map fun b=>if b then 3 else 1
theorem ZfB {fn:Func} {p:Tmp} {ty:TypeId} (h:fn.results= #[.cell p ty]) (tmps:Array Value) (P:Program) (w:World):
 (results fn tmps).run P w=((asAddr (tmps.getD p undef)).run P w).andThen fun a w₁=>(loadVar ty a).run P w₁:=by
 simp only[results,h]
 simp[Zq6,Result.andThen]
theorem ZeV {fn:Func} {p:Tmp} (h:fn.results= #[.cell p 126]) {tmps:Array Value} {w:World} {g:Nat} {t:TypeId} {x y:Value}
 (hp:tmps.getD p undef=.pointer (some ⟨g,0,none⟩)) (hg:w.heap[g]? =some (.cells #[x,y] t (0,0))):
 (results fn tmps).run prog w=.ok (.agg #[x,y]) w:=by
 rw[ZfB h,hp]
 simp only[asAddr,Zqf,Zp6]
 rw[Zql w g t _ #[x,y] (0,0) _ hg underlying126 rfl QhO]
theorem ZaQ {w:World} {b:Nat} {x y:Value} {t:TypeId} (h:w.heap[b]? =some (.cells #[x,y] t (0,0))):
 b<w.heap.size∧w.cell? ⟨b,0,none⟩=some x∧w.cell? ⟨b,1,none⟩=some y∧w.frozen? ⟨b,0,none⟩=false∧w.frozen? ⟨b,1,none⟩=false:=
 ⟨(Znn.1 h).1,Zw h rfl,Zw h rfl,ZB h,ZB h⟩
theorem ZbV {l:List Int} {x:Int} {i n:Nat} (hn:l.length=n) (h:l[i]? =some x):(l.take i++List.replicate (n-i) (0:Int)).set i x=l.take (i+1)++List.replicate (n-(i+1)) 0:=ZeA hn h
def CandE (l:List Int) (t:Int) (w:World) (e:Ending) (w':World):Prop:=∃a c,e=.returned (.agg #[.slice a l.length c,.int .i64 t])∧Own 3 w' w.heap.size (.slice a l.length c) (l.map encI)∧Ext w w'
theorem Zeh (v:Value) (bs:List Bool) (w:World) (hv:Sl w v (bs.map encT)) (hl:bs.length<=400000):
 Calls prog 155 #[v] w (CandE (clsW bs) (Rn.sum (clsW bs)) w):=by
 obtain⟨a,c,rfl⟩:=hv.form
 rw[ZmI]at hv⊢
 obtain⟨n,hn⟩:∃n,n=bs.length:=⟨_,rfl⟩
 rw[<-hn]at hv hl⊢
 have HN:=ZmE hn
 have HV:=ZmE hv
 obtain⟨L,hL⟩:∃L,L=clsW bs:=⟨_,rfl⟩
 rw[<-hL]
 have hLl:L.length=n:=by rw[hL,clsW,ZmI,hn]
 have HLL:=ZmE hLl
 have HL:Hid (∀(j:Nat) (b:Bool),bs[j]? =some b->L[j]? =some (if b then(3:Int)else 1)):=ZmE (fun j b h=>by rw[hL,clsW,Znm,h];rfl)
 clear hv hn hL hLl
 obtain⟨w0,hw0⟩:∃w0,w0=w.alloc (.cells #[.slice none 0 0,.int .i64 0] 126):=⟨_,rfl⟩
 have hX0:Ext w w0:=by rw[hw0];exact(Ext.refl w).alloc _
 have hR0:w0.heap[w.heap.size]? =some (.cells #[.slice none 0 0,.int .i64 0] 126 (0,0)):=by rw[hw0];exact Qgb
 have hS0:w0.heap.size=w.heap.size+1:=by rw[hw0];simp
 obtain⟨wm,hmk,hOm,hXm⟩:=ZaF w0 n (w.heap.size+1) QhN QhN
 have hgl:w0.heap.size<wm.heap.size:=(Zoe hOm _ rfl).2
 have HOm:=ZmE hOm
 have HXm:=ZmE (hX0.trans hXm)
 have HRm:=ZmE (Zd hR0 hXm)
 rw[hS0]at hmk HOm hgl
 rw[hw0]at hmk
 have HGL:=ZmE hgl
 clear hX0 hR0 hS0 hOm hXm hgl hw0
 go_enter func155,ntmps155
 go_wp2_with fail
 go_loopw [12] (fun t wr=>∃(j:Nat) (tot:Int),j<=n∧t=.int .i64 (j:Int)∧0<=tot∧tot<=3*(j:Int)∧Hid (tot=Rn.sum (L.take j))∧Hid (wr.heap[w.heap.size]? =some (.cells #[.slice none 0 0,.int .i64 0] 126 (0,0)))∧Hid (wr.heap[wm.heap.size]? =some (.cells #[.slice (some ⟨w.heap.size+1,0,none⟩) n n,.int .i64 tot] 126 (0,0)))∧Hid (Own 3 wr (w.heap.size+1) (.slice (some ⟨w.heap.size+1,0,none⟩) n n) ((L.take j++List.replicate (n-j) (0:Int)).map encI))∧Hid (Ext w wr)) (fun t _=>n-(intOf t).toNat)
 case atStart=>exact⟨0,0,ZmP _,rfl,by decide,by decide,ZmE rfl,ZmE (Zd HRm.out ((Ext.refl _).alloc _)),ZmE (Znx wm _),ZmE (HOm.out.alloc _),ZmE (HXm.out.alloc _)⟩
 case round=>
 clear HOm HXm HRm hmk
 obtain⟨j,tot,hj,rfl,ht0,ht1,HT,HR,HB,HO,HX⟩:=hrel
 have hgl:=HGL.out
 have hrl:=(Znn.1 HB.out).1
 have hgr:w.heap.size+1<wr.heap.size:=by omega
 by_cases hlt:j<n
 ·obtain⟨b,hbj⟩:∃b,bs[j]? =some b:=⟨_,ZmG QhV⟩
  obtain⟨bb,o,ha,hb,hc⟩:=HV.out.bool_at HX.out hbj
  subst ha
  have hjI:(j:Int)<(n:Int):=by omega
  have hLj:=HL.out j b hbj
  obtain⟨-,e0,e1,e2,e3⟩:=ZaQ HB.out
  have hlen:(L.take j++List.replicate (n-j) (0:Int)).length=n:=by rw[ZmM,ZmY,Zns,HLL.out];omega
  obtain⟨xo,co,fo⟩:=HO.out.intAt (i:=j) (by rw[hlen];exact hlt)
  have hn1:wm.heap.size≠w.heap.size+1:=by omega
  have hn2:w.heap.size+1≠wm.heap.size:=by omega
  have hn3:wm.heap.size≠w.heap.size:=by omega
  have hn4:w.heap.size+1≠w.heap.size:=by omega
  have hbn:bb≠w.heap.size+1:=by omega
  have hbn2:bb≠wm.heap.size:=by omega
  have HX9:=ZmE HX.out
  cases b with
  |true=>rw[ZmH rfl]at hLj;have hO9:=((HO.out.putI j 1).1.putI j 3).1;rw[List.set_set,ZbV HLL.out hLj]at hO9;have hT9:tot+3=Rn.sum (L.take (j+1)):=Qj6;have HO9:=ZmE hO9;have HT9:=ZmE hT9;clear hO9 hT9 hLj hbj;go_wp2_with fail;go_region;go_wp2_with fail;go_roundw;(case rel=>exact⟨j+1,tot+3,by omega,by go_num,by omega,by omega,HT9,ZmE (Zq hn3 (Zq hn4 (Zq hn4 HR.out))),ZmE (Zk (Zq hn2 (Zq hn2 HB.out))),ZmE (HO9.out.set (Zq hn2 (Zq hn2 HB.out)) QhP _ _),ZmE (((HX.out.setCell (p:=⟨w.heap.size+1,j,none⟩) (ZnI _) _).setCell (p:=⟨w.heap.size+1,j,none⟩) (ZnI _) _).setCell (p:=⟨wm.heap.size,1,none⟩) (by show w.heap.size<=wm.heap.size;omega) _).drew⟩);case measure=>exact Qak
  |false=>rw[ZmF QhP]at hLj;have hO9:=(HO.out.putI j 1).1;rw[ZbV HLL.out hLj]at hO9;have hT9:tot+1=Rn.sum (L.take (j+1)):=Qj6;have HO9:=ZmE hO9;have HT9:=ZmE hT9;clear hO9 hT9 hLj hbj;go_wp2_with fail;go_region;go_wp2_with fail;go_roundw;(case rel=>exact⟨j+1,tot+1,by omega,by go_num,by omega,by omega,HT9,ZmE (Zq hn3 (Zq hn4 HR.out)),ZmE (Zk (Zq hn2 HB.out)),ZmE (HO9.out.set (Zq hn2 HB.out) QhP _ _),ZmE ((HX.out.setCell (p:=⟨w.heap.size+1,j,none⟩) (ZnI _) _).setCell (p:=⟨wm.heap.size,1,none⟩) (by show w.heap.size<=wm.heap.size;omega) _).drew⟩);case measure=>exact Qak
 ·obtain rfl:n=j:=QhN;have hO:=HO.out;rw[ZnM,Zpx,ZnC,ZmW (by rw[HLL.out];exact ZmK _)]at hO;have hT:=HT.out;rw[ZmW (by rw[HLL.out];exact ZmK _)]at hT;have HK:=ZmE hO;have HT9:=ZmE hT;obtain⟨-,e0,e1,e2,e3⟩:=ZaQ HB.out;obtain⟨-,d0,d1,d2,d3⟩:=ZaQ HR.out;clear hO hT hlt hj;go_wp2_with fail;refine Zng (ZeV results155 rfl (Zk (Zk HR.out))) rfl ?_;rw[HT9.out];refine⟨_,n,by rw[HLL.out],?_,(HX.out.setCell (p:=⟨w.heap.size,0,none⟩) (ZmK _) _).setCell (p:=⟨w.heap.size,1,none⟩) (ZmK _) _⟩;rw[HLL.out];exact((HK.out.set HR.out QhP _ _).set (Zk HR.out) QhP _ _).mono (ZnI _)
abbrev Cd:=(Option Addr×Nat×Nat)×Int
def cdV (x:Cd):Value:=.slice x.1.1 x.1.2.1 x.1.2.2
def cdC (xs:List Cd):List Value:=xs.flatMap fun x=>[cdV x,.int .i64 x.2]
theorem Ziy (xs:List Cd) (x:Cd):cdC (xs++[x])=cdC xs++[cdV x,.int .i64 x.2]:=by simp[cdC]
theorem Zlj (xs:List Cd):∀(i:Nat) (x:Cd),xs[i]? =some x->(cdC xs)[i*2]? =some (cdV x)∧(cdC xs)[i*2+1]? =some (.int .i64 x.2):=by
 induction xs with
 |nil=>intro i x h;simp at h
 |cons y ys ih=>
  intro i x h
  cases i with
  |zero=>simp only[Znp,Znl]at h;subst h;exact⟨rfl,rfl⟩
  |succ i=>rw[Zn2]at h;have:=ih i x h;have e1:(i+1)*2=i*2+1+1:=QhN;rw[e1];simp only[cdC,Zoo,Zny,Zod,Zn2]at this⊢;exact QeN
def COwn (w:World) (B:Nat) (v:Value) (xs:List Cd):Prop:=w.ownsRow B 126 2 v xs.length (cdC xs)
section
variable {w w':World} {B:Nat} {v:Value} {xs:List Cd}
theorem COwn.ext (h:COwn w B v xs) (hx:Ext w w'):COwn w' B v xs:=by
 refine ZoM h hx.asGrown ?_
 cases hv:v.ownBlock with
 |none=>exact .inl rfl
 |some k=>exact .inr QhQ
theorem COwn.low (h:COwn w B v xs):∀k,v.ownBlock=some k->B<=k:=fun k hk=>(Zoe h k hk).1
theorem Own.apart {T2:TypeId} {k n:Nat} {T:TypeId} {w:World} {B B2:Nat} {v v2:Value} {xs ys:List Value} (h:Own T w B v xs) (h2:w.ownsRow B2 T2 k v2 n ys) (hne:T≠T2):v.ownBlock=none∨v.ownBlock≠v2.ownBlock:=by
 rcases h.2 with⟨h1,_⟩|⟨g,cap,cur,h1,_,hg,_⟩;·exact .inl Qjs
 rcases h2.2 with⟨h3,_⟩|⟨g2,cap2,cur2,h3,_,hg2,_⟩;·exact .inr (by rw[h1,h3];simp[Value.ownBlock])
 ·refine .inr (fun e=> ?_);rw[h1,h3]at e;simp only[Value.ownBlock,Znl]at e;subst e;rw[hg]at hg2;injection hg2 with hg2;injection hg2 with _ hg2;exact hne hg2
end
def Holds (w:World) (xs:List Cd) (ls:List (List Int)):Prop:=xs.length=ls.length∧∀(i:Nat) (x:Cd) (l:List Int),xs[i]? =some x->ls[i]? =some l->x.2=Rn.sum l∧x.1.2.1=l.length∧Own 3 w 0 (cdV x) (l.map encI)
theorem Holds.ext {w w':World} {xs:List Cd} {ls:List (List Int)} (h:Holds w xs ls) (hx:Ext w w'):Holds w' xs ls:=
 ⟨h.1,fun i x l h1 h2=>⟨(h.2 i x l h1 h2).1,(h.2 i x l h1 h2).2.1,(h.2 i x l h1 h2).2.2.ext hx⟩⟩
theorem Holds.grown {w w':World} {B:Nat} {v:Value} {xs ys:List Cd} {ls:List (List Int)} (h:Holds w xs ls) (ho:COwn w B v ys) (hg:w.grownBy w' v.ownBlock):Holds w' xs ls:=
 ⟨h.1,fun i x l h1 h2=>⟨(h.2 i x l h1 h2).1,(h.2 i x l h1 h2).2.1,(h.2 i x l h1 h2).2.2.kept hg ((h.2 i x l h1 h2).2.2.apart ho QhP)⟩⟩
theorem Holds.snoc {w:World} {xs:List Cd} {ls:List (List Int)} (h:Holds w xs ls) {x:Cd} {l:List Int} (h1:x.2=Rn.sum l) (h2:x.1.2.1=l.length) (h3:Own 3 w 0 (cdV x) (l.map encI)):Holds w (xs++[x]) (ls++[l]):=by
 refine⟨by rw[ZmM,ZmM,h.1];rfl,fun i y k hy hk=> ?_⟩;by_cases hi:i<xs.length;·rw[Zol hi]at hy;rw[Zol (by rw[<-h.1];exact hi)]at hk;exact h.2 i y k hy hk
 ·have hlt:=(ZmN.1 hy).1;rw[ZmM,ZoQ]at hlt;obtain rfl:i=xs.length:=QhN;rw[Zo0 (ZmK _),ZnM]at hy;rw[h.1,Zo0 (ZmK _),ZnM]at hk;simp only[Znp,Znl]at hy hk;subst hy hk;exact⟨h1,h2,h3⟩
theorem Holds.one {w:World} {x:Cd} {l:List Int} (h1:x.2=Rn.sum l) (h2:x.1.2.1=l.length) (h3:Own 3 w 0 (cdV x) (l.map encI)):Holds w [x] [l]:=
 Holds.snoc (xs:=[]) (ls:=[]) ⟨rfl,fun i x l h=>by simp at h⟩ h1 h2 h3
def CSl (w:World) (v:Value) (ls:List (List Int)):Prop:=∃b c xs,v=.slice (some ⟨b,0,none⟩) ls.length c∧b<w.heap.size∧Holds w xs ls∧∀(i:Nat) (x:Cd),xs[i]? =some x->w.cell? ⟨b,i*2,none⟩=some (cdV x)∧w.cell? ⟨b,i*2+1,none⟩=some (.int .i64 x.2)
theorem CSl.of {w:World} {B:Nat} {v:Value} {xs:List Cd} {ls:List (List Int)} (h:COwn w B v xs) (hh:Holds w xs ls) (hne:ls≠ []):CSl w v ls:=by
 rcases h.2 with⟨_,h0⟩|⟨g,cap,cur,hv,hbase,hb,h1,h2,h3,h4⟩;·exact absurd (Znq (by rw[<-hh.1];exact h0)) hne
 ·refine⟨g,cap,xs,by rw[hv,hh.1],(Znn.1 hb).1,hh,fun i x hi=> ?_⟩;have hc:=h;unfold COwn at hc;rw[hv]at hc;have hil:=(ZmN.1 hi).1;rw[hc.cellAt (i*2) QhN,hc.cellAt (i*2+1) QhN];exact Zlj xs i x hi
theorem Zh8:(prog.info? 126).map (fun i=>(i.zero,i.size,i.bytes))=some (some (.agg #[.slice none 0 0,.int .i64 0]),2,32):=Qdu
theorem Zcw {w:World} {ops:Array Oper} {rest:List Oper} {o:Oper} {a:Act} {Q:Exit->Act->World->Prop} (hgd:o.guard=none) (s x:Operand)
 (ho:o.op=.call {callee:=.builtin .append,args:= #[s,x],argTypes:= #[123,123]})
 (B:Nat) (v:Value) (xs:List Cd) (hs:a.eval s=v) (hown:COwn w B v xs) (b:Nat) (u:Cd) (hx:a.eval x=.slice (some ⟨b,0,none⟩) 1 1)
 (hc:w.cell? ⟨b,0,none⟩=some (cdV u)) (hc1:w.cell? ⟨b,1,none⟩=some (.int .i64 u.2)) (hn:xs.length<=999999999) (hB:B<=w.heap.size)
 (h:∀v' w',COwn w' B v' (xs++[u])->w.grownBy w' v.ownBlock->wpList prog ops Q rest (a.put o.dst v') w'):wpList prog ops Q (o::rest) a w:=by
 obtain⟨i0,hi,hz0,hz1,hz2⟩:=ZoJ Zh8
 refine ZpR _ hgd s x 123 ho B 126 i0 _ 2 32 underlying123 hi hz0 hz1 hz2 rfl QhP v xs.length (cdC xs) hs hown ⟨b,0,none⟩ 1 1 [cdV u,.int .i64 u.2] hx rfl ?_ ?_ ?_ ?_ hB ?_
 ·intro j u' hj
  rw[ZcO]
  match j with
  |0=>simp only[Znp,Znl]at hj;subst hj;exact hc
  |1=>simp only[Zn2,Znp,Znl]at hj;subst hj;exact hc1
  |j+2=>simp at hj
 ·exact QeI
 ·exact QeT
 ·exact QeG
 ·intro v' w' h1 h2 _;refine h v' w' ?_ h2;unfold COwn;rw[ZmM,Ziy];exact h1
theorem COwn.one {w:World} {B g:Nat} {x:Cd} (hg:w.heap[g]? =some (.cells #[cdV x,.int .i64 x.2] 126 (0,0))) (hB:B<=g):COwn w B (.slice (some ⟨g,0,none⟩) 1 1) [x]:=
 ⟨rfl,.inr ⟨g,1,_,rfl,hB,hg,ZmK _,by unfold Go.maxLen;omega,rfl,rfl⟩⟩
theorem Zc4 (ws:List Int):∀(l:List Int) (t:Int),Ln.quants ws (l++[t])=Ln.quants ws l++(if(Rn.quant ws t).2=0 then [(Rn.quant ws t).1]else [])
 | [],t=>by simp[Ln.quants]
 |x::l,t=>by rw[Zny,Ln.quants,Ln.quants,Zc4 ws l t,Znu]
def CanL (w:World) (ws D T:List Int) (v12 vl ti:Value) (wr:World):Prop:=∃(j:Nat) (xs:List Cd),j<=T.length∧ti=.int .i64 (j:Int)∧xs.length<=j+1∧Hid (COwn wr w.heap.size vl xs)∧Hid (Holds wr xs (D::Ln.quants ws (T.take j)))∧Hid (Own 3 wr w.heap.size v12 (T.map encI))∧Hid (Ext w wr)
def CanM (w:World) (D T:List Int) (x:Cd) (wa:World) (s12:Value) (wx:World):Prop:=
 Own 3 wx (wa.heap.size+1) s12 (T.map encI)∧COwn wx w.heap.size (.slice (some ⟨wa.heap.size,0,none⟩) 1 1) [x]∧Own 3 wx 0 (cdV x) (D.map encI)∧Ext w wx
theorem CanM.grow {w wa wx w5:World} {D T:List Int} {y:Int} {x:Cd} {s v':Value} (h:CanM w D T x wa s wx) (h5:Own 3 w5 (wa.heap.size+1) v' ((T++[y]).map encI)) (hg:wx.grownBy w5 s.ownBlock)
 (hx:∀k,(cdV x).ownBlock=some k->k<wa.heap.size):CanM w D (T++[y]) x wa v' w5:=by
 obtain⟨h1,h2,h3,h4⟩:=h
 have hlow:=h1.low
 refine⟨h5,ZoM h2 hg (.inr fun e=> ?_),h3.kept hg ?_,h4.ofGrown hg fun k hk=> ?_⟩
 ·have:wa.heap.size+1<=wa.heap.size:=hlow _ e.symm;omega
 ·cases hb:(cdV x).ownBlock with
  |none=>exact .inl rfl
  |some k=>refine .inr fun e=> ?_;have h6:=hx k hb;have h7:=hlow k e.symm;omega
 ·have h6:=hlow k hk;have h7:w.heap.size<=wa.heap.size:=h2.low _ rfl;omega
theorem Zc3 (ws:List Int):(Tw.wide ws).1.length<=ws.length:=by
 unfold Tw.wide
 split
 ·exact ZmP _
 split
 ·exact ZmP _
 repeat' (first|split|(dsimp only))
 all_goals simp
theorem Zee (v:Value) (ws:List Int) (w:World) (hv:Sl w v (ws.map encI)) (hne:ws≠ []) (hl:ws.length<=65536) (hw:∀x∈ws,1<=x∧x<=65536):
 Calls prog 86 #[v] w fun e w'=>∃u,e=.returned u∧CSl w' u (Ln.cands ws)∧Ext w w':=by
 have HUN:=ZmE (fun w' (h:Ext w w')=>ZjQ v ws w' (hv.ext h) QhN hw)
 have HQN:=ZmE (fun t w' (h:Ext w w') (ht:t<=1000000000)=>Zf7 v ws t w' (hv.ext h) QhN ht)
 have HWD:=ZmE (fun w' (h:Ext w w')=>Zff v ws w' (hv.ext h) QhN)
 obtain⟨hu1,hud⟩:=Rn.unit_is (fun x hx=>(hw x hx).1) hne
 have hsu:=Rn.sum_unit (fun x hx=>(hw x hx).1) hne
 have hpos:1<=ws.length:=Zob.2 hne
 have hsb:=Rn.sum_in hw
 have HCA:=ZmE (show Ln.cands ws=(ws.map fun x=>x/Rn.unit ws)::(Ln.quants ws (Ln.totals ws.length)++Ln.wides ws)from rfl)
 have HWI:=ZmE (show Ln.wides ws=if(Tw.wide ws).2=0 then [clsW (Tw.wide ws).1]else []from rfl)
 obtain⟨res,hres⟩:∃res,res=Ln.cands ws:=⟨_,rfl⟩
 rw[<-hres]at HCA⊢
 obtain⟨U,hU⟩:∃U,U=Rn.unit ws:=⟨_,rfl⟩
 rw[<-hU]at HUN hu1 hud hsu HCA
 obtain⟨SM,hSM⟩:∃SM,SM=Rn.sum ws:=⟨_,rfl⟩
 rw[<-hSM]at hsu hsb
 obtain⟨D,hD⟩:∃D,D=ws.map fun x=>x/U:=⟨_,rfl⟩
 rw[<-hD]at HCA hsu
 have hDl:D.length=ws.length:=by rw[hD,ZmI]
 have HDA:Hid (∀(j:Nat) (x:Int),ws[j]? =some x->D[j]? =some (x/U)):=ZmE (fun j x h=>by rw[hD,Znm,h];rfl)
 obtain⟨a,c,rfl⟩:=hv.form
 rw[ZmI]at hv HUN HQN HWD⊢
 obtain⟨n,hn⟩:∃n,n=ws.length:=⟨_,rfl⟩
 rw[<-hn]at hv hl HUN HQN HWD HCA hDl hpos⊢
 have HN:=ZmE hn
 have HV:=ZmE hv
 have HS:=ZmE hSM
 have HIN:=ZmE hw
 have HDL:=ZmE hDl
 have hs0:=hsb.1
 have hs1:SM<=4294967296:=Qe8
 have zU:(U==0)=false:=ZmJ.2 QhN
 have hU0:U≠0:=by omega
 have hDn:D≠ []:=fun e=>by rw[e]at hDl;simp at hDl;omega
 have HDN:=ZmE hDn
 obtain⟨SD,hSD⟩:∃SD,SD=SM/U:=⟨_,rfl⟩
 have HSD:Hid (SD=Rn.sum D):=ZmE (by rw[hSD];exact hsu)
 have hsd0:0<=SD:=by rw[hSD];exact Zqm hs0 QhN
 have hsd1:SD<=4294967296:=by rw[hSD];exact ZqD (ZpG U hs0) hs1
 have hsde:=hSD.symm
 have hsdt:SM.tdiv U=SD:=by rw[hSD,Zo1 hs0]
 clear hv hw hne hn hSM hsb hres hU hD hDl hsu hud hDn hSD
 go_enter func86,ntmps86
 go_wp2_with fail
 go_loop [4,23] (fun s i=>∃(j:Nat) (t:Int),j<=n∧i=.int .i64 (j:Int)∧s=.int .i64 t∧0<=t∧t<=65536*(j:Int)∧Hid (t=Rn.sum (ws.take j))) (fun _ i=>n-(intOf i).toNat)
 case atStart=>exact Qcq
 case round=>
 obtain⟨j,t,hj,rfl,rfl,ht0,ht1,HT⟩:=hrel
 by_cases hlt:j<n
 ·exact Qam
 obtain rfl:n=j:=by omega
 obtain rfl:t=SM:=by have h2:=HT.out;exact QeW
 clear hj hlt HT ht0 ht1
 go_wp2_with fail
 refine(HUN.out w (Ext.refl _)).mono ?_
 rintro e w1 ⟨rfl,hx1⟩
 have HX1:=ZmE hx1
 obtain⟨wm,hmk,hOm,hXm⟩:=ZaF w1 n w1.heap.size QhN (ZmK _)
 have HOm:=ZmE hOm
 have HXm:=ZmE hXm
 clear hOm hXm hx1
 go_wp2_with fail
 go_loopw [37] (fun t wr=>∃j:Nat,j<=n∧t=.int .i64 (j:Int)∧Hid (Own 3 wr w1.heap.size (.slice (some ⟨w1.heap.size,0,none⟩) n n) ((D.take j++List.replicate (n-j) (0:Int)).map encI))∧Hid (Ext w1 wr)) (fun t _=>n-(intOf t).toNat)
 case atStart=>exact QeE
 case round=>
 clear HOm HXm hmk
 obtain⟨j,hj,rfl,HO,HX⟩:=hrel
 by_cases hlt:j<n
 ·obtain⟨x,hxj⟩:∃x,ws[j]? =some x:=⟨_,ZmG QhV⟩;obtain⟨b,o,ha,hb,hc⟩:=HV.out.int_at (HX1.out.trans HX.out) hxj;subst ha;have hjI:(j:Int)<(n:Int):=QhN;obtain⟨hx1,hx2⟩:=HIN.out x (ZmT hxj);have hlen:(D.take j++List.replicate (n-j) (0:Int)).length=n:=(by rw[ZmM,ZmY,Zns,HDL.out];omega);obtain⟨xo,co,fo⟩:=HO.out.intAt (i:=j) (by rw[hlen];exact hlt);obtain⟨q,hq⟩:∃q,q=x/U:=⟨_,rfl⟩;have hq0:0<=q:=(by rw[hq];exact Zqm QhN QhN);have hq1:q<=65536:=(by rw[hq];exact ZqD (ZpG U QhN) hx2);have hqe:=hq.symm;have hqt:x.tdiv U=q:=(by rw[hq,Zo1 QhN]);have hO9:=(HO.out.putI j q).1;rw[ZbV HDL.out (by rw[hq];exact HDA.out j x hxj)]at hO9;have HO9:=ZmE hO9;clear hq hO9 hxj;go_wp2_with fail;go_roundw;(case rel=>exact⟨j+1,by omega,by go_num,HO9,ZmE (HX.out.setCell (p:=⟨w1.heap.size,j,none⟩) (ZmK _) _)⟩);case measure=>exact Qak
 obtain rfl:n=j:=by omega
 have HO1:Hid (Own 3 wr w1.heap.size (.slice (some ⟨w1.heap.size,0,none⟩) n n) (D.map encI)):=ZmE (by have h:=HO.out;rw[ZnM,Zpx,ZnC,ZmW (by rw[HDL.out];exact ZmK _)]at h;exact h)
 have HX2:=ZmE (HX1.out.trans HX.out)
 rename World=>wa
 clear hj hlt HO HX
 have hsz:=HX2.out.size
 obtain⟨T1,hT1⟩:∃T:List Int,T=(if n=59 then [95]else if n=43 then [67]else if n=33 then [51]else []):=⟨_,rfl⟩
 obtain⟨T2,hT2⟩:∃T:List Int,T=(if 13<=n∧(n-7)%6=0 then [Ln.total11 n]else []):=⟨_,rfl⟩
 have HCA2:Hid (res=D::(Ln.quants ws (T1++T2)++Ln.wides ws)):=ZmE (by rw[hT1,hT2];exact HCA.out)
 have HB1:Hid (∀x∈T1++T2,0<=x∧x<=1000000000):=ZmE (by intro x hx;rcases ZnR.1 hx with h|h;(·rw[hT1]at h;(repeat' split at h)<;>simp at h<;>omega);·rw[hT2]at h;split at h;(·rw[Znz]at h;unfold Ln.total11 at h;omega);·cases h)
 have HT1:=ZmE hT1
 have HT2:=ZmE hT2
 have hT1l:T1.length<=1:=by rw[hT1];(repeat' split)<;>simp
 have hT2l:T2.length<=1:=by rw[hT2];split<;>simp
 obtain⟨x0,hx0⟩:∃x:Cd,x=((some ⟨w1.heap.size,0,none⟩,n,n),SD):=⟨_,rfl⟩
 have HLV:Hid (∀k,(cdV x0).ownBlock=some k->k<wa.heap.size):=ZmE (fun k hk=>by have h:=(Zoe HO1.out _ rfl).2;rw[hx0]at hk;injection hk with hk;subst hk;exact h)
 obtain⟨wb,hwb⟩:∃wb,wb=wa.alloc (.cells #[.slice (some ⟨w1.heap.size,0,none⟩) n n,.int .i64 SD] 126):=⟨_,rfl⟩
 have HC5:Hid (COwn wb w.heap.size (.slice (some ⟨wa.heap.size,0,none⟩) 1 1) [x0]):=ZmE (by rw[hwb,hx0];exact COwn.one (x:=((some ⟨w1.heap.size,0,none⟩,n,n),SD)) (Znx wa _) HX2.out.size)
 have HD5:Hid (Own 3 wb 0 (cdV x0) (D.map encI)):=ZmE (by rw[hwb,hx0];exact(HO1.out.mono (ZmP _)).alloc _)
 have HX5:Hid (Ext w wb):=ZmE (by rw[hwb];exact HX2.out.alloc _)
 have HSB:Hid (wb.heap.size=wa.heap.size+1):=ZmE (by rw[hwb];simp)
 have HX0:=ZmE hx0
 have HWB:=ZmE hwb
 clear hT1 hT2 hx0 hwb HCA
 have hlv:=HLV.out
 go_upto_block 4 with fail
 go_cut [12]from 19 (fun s12 wx=>Hid (CanM w D T1 x0 wa s12 wx))
 case first=>by_cases h59:n=59;(·have z59:((n:Int)==59)=true:=Znj.2 QhN;have HTV:Hid (T1=[95]):=ZmE (by rw[HT1.out,ZmH h59]);clear h59;go_wp2_with (at_builtin;rw[<-HWB.out];refine Zm rfl _ _ rfl (wa.heap.size+1) _ [] rfl (Own.nil _ _ _) _ 95 rfl ?c1 ?c2 ?c3 ?_);(case c1=>rw[<-HSB.out];exact QbU);(case c2=>simp);(case c3=>exact Qey);intro v' w5 hown5 hg5;have HM:Hid (CanM w D T1 x0 wa v' w5):=ZmE (by rw[HTV.out];exact CanM.grow (T:=[]) (y:=95) ⟨Own.nil _ _ _,HC5.out.ext ((Ext.refl _).alloc _),HD5.out.alloc _,HX5.out.alloc _⟩ hown5 hg5 hlv);clear hown5 hg5;exact Qdg);have z59:((n:Int)==59)=false:=ZmJ.2 QhN;by_cases h43:n=43;(·have z43:((n:Int)==43)=true:=Znj.2 QhN;have HTV:Hid (T1=[67]):=ZmE (by rw[HT1.out,ZmF h59,ZmH h43]);clear h43;go_wp2_with (at_builtin;rw[<-HWB.out];refine Zm rfl _ _ rfl (wa.heap.size+1) _ [] rfl (Own.nil _ _ _) _ 67 rfl ?c1 ?c2 ?c3 ?_);(case c1=>rw[<-HSB.out];exact QbU);(case c2=>simp);(case c3=>exact Qey);intro v' w5 hown5 hg5;have HM:Hid (CanM w D T1 x0 wa v' w5):=ZmE (by rw[HTV.out];exact CanM.grow (T:=[]) (y:=67) ⟨Own.nil _ _ _,HC5.out.ext ((Ext.refl _).alloc _),HD5.out.alloc _,HX5.out.alloc _⟩ hown5 hg5 hlv);clear hown5 hg5;exact Qdg);have z43:((n:Int)==43)=false:=ZmJ.2 QhN;by_cases h33:n=33;(·have z33:((n:Int)==33)=true:=Znj.2 QhN;have HTV:Hid (T1=[51]):=ZmE (by rw[HT1.out,ZmF h59,ZmF h43,ZmH h33]);clear h33;go_wp2_with (at_builtin;rw[<-HWB.out];refine Zm rfl _ _ rfl (wa.heap.size+1) _ [] rfl (Own.nil _ _ _) _ 51 rfl ?c1 ?c2 ?c3 ?_);(case c1=>rw[<-HSB.out];exact QbU);(case c2=>simp);(case c3=>exact Qey);intro v' w5 hown5 hg5;have HM:Hid (CanM w D T1 x0 wa v' w5):=ZmE (by rw[HTV.out];exact CanM.grow (T:=[]) (y:=51) ⟨Own.nil _ _ _,HC5.out.ext ((Ext.refl _).alloc _),HD5.out.alloc _,HX5.out.alloc _⟩ hown5 hg5 hlv);clear hown5 hg5;exact Qdg);have z33:((n:Int)==33)=false:=ZmJ.2 QhN;have HTV:Hid (T1=[]):=ZmE (by rw[HT1.out,ZmF h59,ZmF h43,ZmF h33]);have HM:Hid (CanM w D T1 x0 wa (.slice none 0 0) wb):=ZmE (by rw[HTV.out];exact⟨Own.nil _ _ _,HC5.out,HD5.out,HX5.out⟩);clear h59 h43 h33;go_wp2_with fail;rw[<-HWB.out];go_meet;case rel=>exact HM
 case rest=>
 have HM1:=hcut
 clear hcut HC5 HD5 HX5 HSB HWB HT1 hsz
 obtain⟨B2,hB2⟩:∃b:Bool,b=decide (13<=n∧(n-7)%6=0):=⟨_,rfl⟩
 have HB2:=ZmE hB2
 clear hB2
 obtain⟨k,hk⟩:∃k,k=n-7:=⟨_,rfl⟩
 rw[<-hk]at HB2 HT2
 have HK:=ZmE hk
 clear hk
 go_upto_region 24 with fail
 go_cut [78]from 19 (fun s78 wx=>s78=.bool B2∧wx=wc)
 case first=>by_cases h13:13<=n;(·have h13I:(13:Int)<=(n:Int):=QhN;have hkI:(n:Int)-7=(k:Int):=(by have:=HK.out;omega);obtain⟨r,hr⟩:∃r:Int,r=(k:Int)%6:=⟨_,rfl⟩;have hr2:=hr.symm;have hr3:Int.tmod (k:Int) 6=r:=(by rw[hr];rfl);by_cases hk6:k%6=0;(·have zr:(r==0)=true:=Znj.2 QhN;obtain rfl:B2=true:=(by rw[HB2.out];exact ZmR ⟨h13,hk6⟩);clear hr;exact Qep);·have zr:(r==0)=false:=ZmJ.2 QhN;obtain rfl:B2=false:=(by rw[HB2.out];exact ZmS (fun h=>hk6 h.2));clear hr;exact Qep);·have h13I:¬(13:Int)<=(n:Int):=QhN;obtain rfl:B2=false:=(by rw[HB2.out];exact ZmS (fun h=>h13 h.1));exact Qep
 case rest=>
 obtain⟨rfl,rfl⟩:=hcut
 go_upto_if 78 with fail
 go_cut [12]from 19 (fun s12 wx=>Hid (CanM w D (T1++T2) x0 wa s12 wx))
 case first=>
  cases B2 with
  |false=>have HM:Hid (CanM w D (T1++T2) x0 wa u12 wc):=ZmE (by rw[HT2.out,ZmF (ZoA HB2.out.symm),ZnC];exact HM1.out);exact Qdg
  |true=>obtain⟨h13,hk6⟩:=Zok HB2.out.symm;have hkI:(n:Int)-7=(k:Int):=(by have:=HK.out;omega);obtain⟨tt,htt⟩:∃tt:Nat,tt=(11*k)/6:=⟨_,rfl⟩;have hte:11*(k:Int)/6=(tt:Int):=QhN;have htT:(11*(k:Int)).tdiv 6=(tt:Int):=(by rw[Zo1 QhN,hte]);have HTV:Hid (T2=[(tt:Int)+13]):=ZmE (by rw[HT2.out,ZmH ⟨h13,hk6⟩,Ln.total11,hkI,hte]);have hkb:k<=65536:=(by have:=HK.out;omega);have htb:tt<=131072:=QhN;have hm:=HM1.out;have hsz:=hm.2.2.2.size;have hcs:=(Zoe hm.2.1 _ rfl).2;clear h13 hk6 htt;go_wp2_with (at_builtin;refine Zm rfl _ _ rfl (wa.heap.size+1) _ T1 rfl (hm.1.alloc _) _ ((tt:Int)+13) rfl ?c1 ?c2 ?c3 ?_);(case c1=>exact QbU);(case c2=>omega);(case c3=>first|(simp;done)|(simp;omega)|omega);intro v' w5 hown5 hg5;have HM:Hid (CanM w D (T1++T2) x0 wa v' w5):=ZmE (by rw[HTV.out];exact CanM.grow ⟨hm.1.alloc _,hm.2.1.ext ((Ext.refl _).alloc _),hm.2.2.1.alloc _,hm.2.2.2.alloc _⟩ QhT hg5 hlv);clear hown5 hg5 hm hsz hcs;exact Qdg
 case rest=>
 have hm:=hcut.out
 clear hcut HM1 HT2 HB2 HK
 rw[HX0.out]at hm
 have HC5:Hid (COwn wc w.heap.size (.slice (some ⟨wa.heap.size,0,none⟩) 1 1) [((some ⟨w1.heap.size,0,none⟩,n,n),SD)]):=ZmE hm.2.1
 have HH5:Hid (Holds wc [((some ⟨w1.heap.size,0,none⟩,n,n),SD)] [D]):=ZmE (Holds.one HSD.out HDL.out.symm hm.2.2.1)
 have HX5:=ZmE hm.2.2.2
 have HO5:=ZmE (hm.1.mono (B':=w.heap.size) (ZnF HX2.out.size (ZnI _)))
 clear hm hlv
 obtain⟨T,hT⟩:∃T:List Int,T=T1++T2:=⟨_,rfl⟩
 obtain⟨L,hL⟩:∃L,T.length=L:=⟨_,rfl⟩
 rw[<-hT]at HCA2 HB1 HO5
 have HTB:=HB1
 have HCA5:=HCA2
 have HTL:=ZmE hL
 obtain⟨A5,c5,rfl⟩:=HO5.out.sl.form
 rw[ZmI,hL]at HO5⊢
 have hLb:L<=2:=by rw[<-hL,hT,ZmM];have:T2.length<=1:=hT2l;omega
 clear hT hL HCA2 HB1 hT1l hT2l
 go_wp2_with fail
 go_loopw [11,89] (fun vl ti wr=>CanL w ws D T (.slice A5 L c5) vl ti wr) (fun _ t _=>L-(intOf t).toNat)
 case atStart=>exact⟨0,_,ZmP _,rfl,by simp,HC5,by simpa[Ln.quants]using HH5,HO5,HX5⟩
 case round=>
 clear HC5 HH5 HO5 HX5
 obtain⟨j,xs,hj,rfl,hxl,HC,HH,HT,HX⟩:=hrel
 rw[HTL.out]at hj
 by_cases hlt:j<L
 ·obtain⟨x,hxj⟩:∃x,T[j]? =some x:=⟨_,ZmG (by rw[HTL.out];exact hlt)⟩;obtain⟨hx0,hx1⟩:=HTB.out x (ZmT hxj);obtain⟨xt,rfl⟩:∃xt:Nat,x=(xt:Int):=⟨x.toNat,by omega⟩;obtain⟨b,o,ha,hb,hc⟩:=HT.out.slk.1.int_at (Ext.refl wr) hxj;subst ha;have hjI:(j:Int)<L:=QhN;have HQ9:=ZmE (HQN.out xt wr HX.out QhN);have HQS:=ZmE (fun h=> @Rn.quant_sum ws (xt:Int) h);have HQU:Hid (Ln.quants ws (T.take (j+1))=Ln.quants ws (T.take j)++(if(Rn.quant ws (xt:Int)).2=0 then [(Rn.quant ws (xt:Int)).1]else [])):=ZmE (by rw[Zu hxj,Zc4]);obtain⟨⟨ql,qe⟩,hqr⟩:∃r,r=Rn.quant ws (xt:Int):=⟨_,rfl⟩;rw[<-hqr]at HQ9 HQS HQU;dsimp only at HQU HQS;clear hqr hxj;go_wp2_with fail;refine HQ9.out.mono ?_;rintro e w2 ⟨u,rfl,hu,hx2⟩;dsimp only at hu⊢;obtain⟨-,au,cu,rfl,-⟩:=hu.slk;rw[ZmI]at hu⊢;have HU:=ZmE hu;have HX2':=ZmE (HX.out.trans hx2);have HC2:=ZmE (HC.out.ext hx2);have HH2:=ZmE (HH.out.ext hx2);have HT2:=ZmE (HT.out.ext hx2);clear hu hx2 HC HH HT hc;by_cases hqe:qe=0;(·have hqs:=(HQS.out hqe).1;subst hqe;have hsz:=HX2'.out.size;have HQ3:Hid (Ln.quants ws (T.take (j+1))=Ln.quants ws (T.take j)++[ql]):=ZmE (by rw[HQU.out,ZmH rfl]);have hc2:=HC2.out;go_wp2_with (at_builtin;refine Zcw rfl _ _ rfl w.heap.size _ xs rfl (hc2.ext ((Ext.refl _).alloc _)) _ ((au,ql.length,cu),(xt:Int)) rfl ?ke1 ?ke4 ?ke2 ?ke3 ?_);(case ke1=>simp[go_sem,cdV]);(all_goals(try(case ke4=>simp[go_sem])));(case ke2=>omega);(case ke3=>exact Qa3);intro v' w5 hown5 hg5;have HX9:=ZmE ((HX2'.out.alloc _).ofGrown hg5 hc2.low);have HC9:=ZmE hown5;have HT9:Hid (Own 3 w5 w.heap.size (.slice (some ⟨b,o,none⟩) L c5) (T.map encI)):=ZmE ((HT2.out.alloc _).kept hg5 (Own.apart HT2.out hc2 QhP));have HH9:Hid (Holds w5 (xs++[((au,ql.length,cu),(xt:Int))]) (D::Ln.quants ws (T.take (j+1)))):=ZmE (by rw[HQ3.out,<-Zny];refine Holds.snoc ((HH2.out.ext ((Ext.refl _).alloc _)).grown (hc2.ext ((Ext.refl _).alloc _)) hg5) hqs.symm rfl ?_;exact((HU.out.mono (ZmP _)).alloc _).kept hg5 (Own.apart HU.out hc2 QhP));have hxl9:(xs++[((au,ql.length,cu),(xt:Int))]).length<=j+1+1:=QbW;clear hown5 hg5 hc2 HX2' HC2 HH2 HT2 HU;go_wp2_with fail;go_roundw;(case rel=>exact⟨j+1,_,by rw[HTL.out];omega,by go_num,hxl9,HC9,HH9,HT9,HX9⟩);case measure=>exact Qak);·have z:(qe==0)=false:=ZmJ.2 hqe;have HH9:Hid (Holds w2 xs (D::Ln.quants ws (T.take (j+1)))):=ZmE (by rw[HQU.out,ZmF hqe,ZnC];exact HH2.out);go_wp2_with fail;go_roundw;(case rel=>exact⟨j+1,_,by rw[HTL.out];omega,by go_num,by omega,HC2,HH9,HT2,HX2'⟩);case measure=>exact Qak
 ·obtain rfl:j=L:=QhN;have HH1:Hid (Holds wr xs (D::Ln.quants ws T)):=ZmE (by have h:=HH.out;rw[ZmW (by rw[HTL.out];exact ZmK _)]at h;exact h);have HW9:=ZmE (HWD.out wr HX.out);clear HH HT hlt hj;go_wp2_with fail;refine HW9.out.mono ?_;rintro e w2 ⟨u,rfl,hu,hx2⟩;have HU:=ZmE hu;have HX2':=ZmE (HX.out.trans hx2);have HC2:=ZmE (HC.out.ext hx2);have HH2:=ZmE (HH1.out.ext hx2);clear hu hx2 HC HH1;have hwl:=Zc3 ws;obtain⟨⟨wb,we⟩,hwr⟩:∃r,r=Tw.wide ws:=⟨_,rfl⟩;rw[<-hwr]at HU HWI hwl⊢;dsimp only at HU HWI hwl⊢;have hwl2:wb.length<=400000:=(by rw[<-HN.out]at hwl;omega);clear hwr hwl;by_cases hwe:we=0;(·subst hwe;have HF:Hid (res=(D::Ln.quants ws T)++[clsW wb]):=ZmE (by rw[HCA5.out,HWI.out,ZmH rfl];rfl);have HCL:=ZmE (fun w' h=>Zeh u wb w' h hwl2);go_wp2_with fail;refine(HCL.out w2 HU.out).mono ?_;rintro e w3 ⟨a3,c3,rfl,hu3,hx3⟩;have HU3:=ZmE hu3;have HX3:=ZmE (HX2'.out.trans hx3);have HH3:=ZmE (HH2.out.ext hx3);have hsz:=HX3.out.size;have hc2:=HC2.out.ext hx3;clear hu3 hx3 HX2' HC2 HH2;go_wp2_with (at_builtin;refine Zcw rfl _ _ rfl w.heap.size _ xs rfl (hc2.ext ((Ext.refl _).alloc _)) _ ((a3,(clsW wb).length,c3),Rn.sum (clsW wb)) rfl ?kd1 ?kd4 ?kd2 ?kd3 ?_);(case kd1=>simp[go_sem,cdV]);(all_goals(try(case kd4=>simp[go_sem])));(case kd2=>omega);(case kd3=>exact Qa3);intro v' w5 hown5 hg5;have HX9:=ZmE ((HX3.out.alloc _).ofGrown hg5 hc2.low);have HS9:Hid (CSl w5 v' res):=ZmE (by rw[HF.out];refine CSl.of hown5 ?_ QhQ;refine Holds.snoc ((HH3.out.ext ((Ext.refl _).alloc _)).grown (hc2.ext ((Ext.refl _).alloc _)) hg5) rfl rfl ?_;exact((HU3.out.mono (ZmP _)).alloc _).kept hg5 (Own.apart HU3.out hc2 QhP));clear hown5 hg5 hc2;go_wp2_with fail;go_ret;exact⟨_,rfl,HS9.out,HX9.out⟩);·have z:(we==0)=false:=ZmJ.2 hwe;have HS9:Hid (CSl w2 _ res):=ZmE (by rw[HCA5.out,HWI.out,ZmF hwe,ZnC];exact CSl.of HC2.out HH2.out QhQ);go_wp2_with fail;go_ret;exact⟨_,rfl,HS9.out,HX2'.out⟩
end
end Go.Proofs.YtbngggoccndefaaGreatDoor
