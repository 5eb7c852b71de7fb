/-
  Laid.
-/
import Derived.Test.YtbngggoccndefaaGreatDoorRt05
import Derived.Test.YtbngggoccndefaaGreatDoorRt06
set_option maxHeartbeats 8000000
set_option maxRecDepth 100000
set_option linter.all false
namespace Go.Proofs.YtbngggoccndefaaGreatDoor
open Go.Proofs.Tryz
section
open Go.RowKit Go.WideMaps Go.Maps
abbrev Gs.Rule:=Int×Int×Int×UInt8
def Gs.base:List (List UInt8×Gs.Rule):=[([48,48],(1,18,18,0)),([50,48],(0,2,2,0)),([56,48,50,48],(3,1,25,0))]
def Gs.lists:List (List UInt8×Gs.Rule):=[
 ([48,49,32,48,50],(1,14,14,0)),
 ([49,49,32,49,50,32,49,51,32,49,53,32,49,54,32,49,55],(2,6,6,0)),
 ([51,49,48,32,51,49,49,32,51,49,50,32,51,49,51,32,51,49,52,32,51,49,53,32,51,49,54],(0,6,6,53)),
 ([51,50,48,32,51,50,49,32,51,50,50,32,51,50,51,32,51,50,52,32,51,50,53,32,51,50,54,32,51,50,55,32,51,50,56,32,51,50,57],(0,6,6,53)),
 ([51,51,48,32,51,51,49,32,51,51,50,32,51,51,51,32,51,51,52,32,51,51,53,32,51,51,54,32,51,51,55],(0,6,6,53)),
 ([52,49,48,32,52,49,49,32,52,49,50,32,52,49,51,32,52,49,52,32,52,49,53,32,52,49,54,32,52,49,55],(1,13,13,0)),
 ([51,48,32,51,55],(0,1,8,0)),
 ([51,57,48,32,51,57,50],(0,1,15,57)),
 ([49,48,32,50,49,32,50,50,32,50,53,52],(3,1,20,0)),
 ([50,52,48,32,50,52,49,32,50,53,48,32,50,53,49,32,52,48,48,32,52,48,49,32,52,48,51,32,57,48],(3,1,30,0)),
 ([57,49,32,57,50,32,57,51,32,57,52,32,57,53,32,57,54,32,57,55,32,57,56,32,57,57],(3,1,90,0))]
def Gs.words (p:List UInt8×Gs.Rule):List (List UInt8×Gs.Rule):=(Lib.fields p.1).map fun k=>(k,p.2)
def Gs.ents (n:Nat):List (List UInt8×Gs.Rule):=Gs.base++(Gs.lists.take n).flatMap Gs.words
theorem dF (n:Nat) (p:List UInt8×Gs.Rule) (h:Gs.lists[n]? =some p):Gs.ents (n+1)=Gs.ents n++Gs.words p:=by unfold Gs.ents;rw[R5,h,VJ];simp
def Z4 (r:Gs.Rule):Value:=.agg #[.int .i64 r.1,.int .i64 r.2.1,.int .i64 r.2.2.1,.int .u8 (r.2.2.2.toNat:Int)]
def E8 (r:Gs.Rule):DataW Unit:=.agg [.lit (.int .i64 r.1),.lit (.int .i64 r.2.1),.lit (.int .i64 r.2.2.1),.lit (.int .u8 (r.2.2.2.toNat:Int))]
def A7 (v:Value):Option (DataW Unit×List MemPlace):=match v with
 | .agg ⟨[.int .i64 a,.int .i64 b,.int .i64 c,.int .u8 d]⟩=>some (.agg [.lit (.int .i64 a),.lit (.int .i64 b),.lit (.int .i64 c),.lit (.int .u8 d)],[])
 |_=>none
theorem RU (r:Gs.Rule):A7 (Z4 r)=some (E8 r,[]):=rfl
theorem AX {v:Value} {r:Gs.Rule} {ps:List MemPlace} (h:A7 v=some (E8 r,ps)):v=Z4 r:=by
 unfold A7 at h;split at h;·unfold E8 at h;simp only[A2,A3,DataW.agg.injEq,UL,DataW.lit.injEq,Lit.int.injEq,F5,true_and]at h;obtain⟨⟨rfl,rfl,rfl,rfl⟩,_⟩:=h;rfl
 ·simp at h
def Gs.tabOf (l:List (List UInt8×Gs.Rule)):DataW Unit:=l.foldl (fun m p=>m.put (.string p.1) (E8 p.2)) (.map [])
theorem AY (l:List (List UInt8×Gs.Rule)) (p:List UInt8×Gs.Rule):Gs.tabOf (l++[p])=(Gs.tabOf l).put (.string p.1) (E8 p.2):=by simp[Gs.tabOf]
theorem AZ (l:List (List UInt8×Gs.Rule)):IsMap (Gs.tabOf l):=by
 unfold Gs.tabOf;have:∀(l:List (List UInt8×Gs.Rule)) (m:DataW Unit),IsMap m->IsMap (l.foldl (fun m p=>m.put (.string p.1) (E8 p.2)) m):=by
  intro l
  induction l with
  |nil=>intro m h;exact h
  |cons p l ih=>intro m h;exact ih _ (h.put _ _)
 exact this l _ isMap_empty
def Gs.get (l:List (List UInt8×Gs.Rule)) (k:List UInt8):Option Gs.Rule:=(l.reverse.find? fun p=>p.1==k).map (·.2)
theorem dG (l:List (List UInt8×Gs.Rule)) (p:List UInt8×Gs.Rule) (k:List UInt8):Gs.get (l++[p]) k=if p.1=k then some p.2 else Gs.get l k:=by
 unfold Gs.get;rw[O4];simp only[R8,List.reverse_nil,E4,List.singleton_append,List.find?_cons];by_cases h:p.1=k;·simp[h]
 ·have:(p.1==k)=false:=A6;simp[h,this]
theorem dH (l:List (List UInt8×Gs.Rule)) (k:List UInt8):Maps.has (Gs.tabOf l) (.string k)=(Gs.get l k).isSome∧∀z r,Gs.get l k=some r->(Gs.tabOf l).atKey (.string k) z=E8 r:=by
 have key:∀n (l:List (List UInt8×Gs.Rule)),l.length=n->Maps.has (Gs.tabOf l) (.string k)=(Gs.get l k).isSome∧∀z r,Gs.get l k=some r->(Gs.tabOf l).atKey (.string k) z=E8 r:=by
  intro n
  induction n with
  |zero=>intro l hl;obtain rfl:=V2 hl;exact⟨rfl,fun z r h=>by simp[Gs.get]at h⟩
  |succ n ih=>intro l hl;obtain⟨m,p,rfl⟩:∃m p,l=m++[p]:=⟨l.dropLast,l.getLast (by intro e;rw[e]at hl;simp at hl),(LX _).symm⟩;have ihm:=ih m (by simpa using hl);rw[AY,dG];by_cases h:p.1=k;(·rw[G0 h,<-h];refine⟨by rw[has_put_same (AZ m) (show WideAt.IsKeyLit (.string _)from trivial)];rfl,fun z r hr=> ?_⟩;simp only[A2]at hr;rw[<-hr];exact atKey_put_same (AZ m) (show WideAt.IsKeyLit (.string _)from trivial) _ _);·rw[D0 h];have hne:(Lit.string k)≠ .string p.1:=fun e=>h (by injection e with e;exact e.symm);rw[has_put_other hne];exact⟨ihm.1,fun z r hr=>by rw[atKey_put_other hne];exact ihm.2 z r hr⟩
 exact key l.length l rfl
def Gs.dir:List (List UInt8×Gs.Rule):=Gs.ents 11
theorem dI:∀p∈Gs.lists,p.1.length<=100∧(∀b∈p.1,b.toNat<128)∧(Lib.fields p.1).length<=10∧∀k∈Lib.fields p.1,k.length<=10:=Y1
theorem Zj {w w':World} {n:String} {q:IntKind} {zs:List Int} (h:Lib.TabIs prog w n q zs) (hx:Ext w w'):Lib.TabIs prog w' n q zs:=by
 unfold Lib.TabIs World.var? at h⊢
 cases hg:prog.globalNamed n with
 |none=>rw[hg]at h;simp at h
 |some g=>rw[hg]at h;simp only[Option.bind_some]at h⊢;have hlt:g<w.heap.size:=(by rcases N5 g w.heap.size with hh|hh;(·exact hh);·rw[XY hh]at h;simp at h);rw[hx.block g hlt];exact h
abbrev ZB (w:World):Prop:=Lib.TabIs prog w "strings.asciiSpace" .u8 Lib.asciiSpaceTab
theorem RV (s:ByteArray) (h:s.size<=1000000):keyOf prog 9 (.string s)=some (.string s.data.toList):=keyOf_string_mk underlying9 G5
theorem RW {a b c:World} {r:Option Nat} (h:a.grownBy b r) (k:b.grownBy c r):a.grownBy c r:=
 ⟨k.os.trans h.os,k.tape.trans h.tape,k.output.trans h.output,L3 h.size k.size,fun i hi hne=>(k.block i (M1 hi h.size) hne).trans (h.block i hi hne)⟩
def YO:Array Value:=(Gs.lists.flatMap fun p=>[.string ⟨p.1.toArray⟩,.int .i64 p.2.1,.int .i64 p.2.2.1,.int .i64 p.2.2.2.1,.int .u8 (p.2.2.2.2.toNat:Int)]).toArray
theorem dJ:∀n,n<11->∃p,Gs.lists[n]? =some p∧YO[n*5]? =some (.string ⟨p.1.toArray⟩)∧YO[n*5+1]? =some (.int .i64 p.2.1)∧YO[n*5+2]? =some (.int .i64 p.2.2.1)∧YO[n*5+3]? =some (.int .i64 p.2.2.2.1)∧YO[n*5+4]? =some (.int .u8 (p.2.2.2.2.toNat:Int)):=by
 intro n hn
 match n,hn with
 |0,_=>exact⟨_,rfl,rfl,rfl,rfl,rfl,rfl⟩
 |1,_=>exact⟨_,rfl,rfl,rfl,rfl,rfl,rfl⟩
 |2,_=>exact⟨_,rfl,rfl,rfl,rfl,rfl,rfl⟩
 |3,_=>exact⟨_,rfl,rfl,rfl,rfl,rfl,rfl⟩
 |4,_=>exact⟨_,rfl,rfl,rfl,rfl,rfl,rfl⟩
 |5,_=>exact⟨_,rfl,rfl,rfl,rfl,rfl,rfl⟩
 |6,_=>exact⟨_,rfl,rfl,rfl,rfl,rfl,rfl⟩
 |7,_=>exact⟨_,rfl,rfl,rfl,rfl,rfl,rfl⟩
 |8,_=>exact⟨_,rfl,rfl,rfl,rfl,rfl,rfl⟩
 |9,_=>exact⟨_,rfl,rfl,rfl,rfl,rfl,rfl⟩
 |10,_=>exact⟨_,rfl,rfl,rfl,rfl,rfl,rfl⟩
theorem RX (w:World) (ht:ZB w):
 Calls prog 53 #[] w fun e w'=>∃b,e=.returned (.map (some b))∧w'.ownsMap prog 9 A7 b 200 (Gs.tabOf Gs.dir)∧w.heap.size<=b∧Ext w w':=by
 have HT:=B0 ht
 have hmm:= @RS prog
 have K:=string_keyed (P:=prog) underlying9
 obtain⟨w1,r1,o1,g1⟩:=(World.ownsMap_made w prog 9 A7).update K underlying78 J0 (RV ⟨#[48,48]⟩ J0) (RU (1,18,18,0))
 obtain⟨w2,r2,o2,g2⟩:=o1.update K underlying78 J0 (RV ⟨#[50,48]⟩ J0) (RU (0,2,2,0))
 obtain⟨w3,r3,o3,g3⟩:=o2.update K underlying78 J0 (RV ⟨#[56,48,50,48]⟩ J0) (RU (3,1,25,0))
 replace r1:(Instr.mapUpdate 78 (.map (some w.heap.size)) (.string ⟨#[48,48]⟩) (.agg #[.int .i64 1,.int .i64 18,.int .i64 18,.int .u8 0])).run prog (w.alloc (.map #[] 0))=.ok () w1:=r1
 replace r2:(Instr.mapUpdate 78 (.map (some w.heap.size)) (.string ⟨#[50,48]⟩) (.agg #[.int .i64 0,.int .i64 2,.int .i64 2,.int .u8 0])).run prog w1=.ok () w2:=r2
 replace r3:(Instr.mapUpdate 78 (.map (some w.heap.size)) (.string ⟨#[56,48,50,48]⟩) (.agg #[.int .i64 3,.int .i64 1,.int .i64 25,.int .u8 0])).run prog w2=.ok () w3:=r3
 clear ht
 go_enter func53,ntmps53
 go_wp2
 have hW:∃W:World,W=w3.alloc (.cells YO 139):=⟨_,rfl⟩
 obtain⟨W,hW⟩:=hW
 have hsz3:w.heap.size<w3.heap.size:=o3.lt
 have hWs:W.heap.size=w3.heap.size+1:=by rw[hW];simp
 have HC:Hid (∀wr,W.grownBy wr (some w.heap.size)->∀k,wr.cell? ⟨w3.heap.size,k,none⟩=YO[k]?):=B0 (fun wr hg k=>by have hb:wr.heap[w3.heap.size]? =W.heap[w3.heap.size]? :=hg.block w3.heap.size C0 LY;rw[LI (w:=W) (a:=⟨w3.heap.size,k,none⟩) hb,hW];unfold World.cell?;rw[E2];rfl)
 have oW:W.ownsMap prog 9 A7 w.heap.size 3 (Gs.tabOf (Gs.ents 0)):=by rw[hW];exact o3.alloc _
 have hxW:Ext w W:=by rw[hW];exact((((Ext.refl w).alloc _).ofGrown g1 (fun k hk=>by cases hk;exact I0 _)).ofGrown g2 (fun k hk=>by cases hk;exact I0 _)).ofGrown g3 (fun k hk=>by cases hk;exact I0 _) |>.alloc _
 have HWE:=B0 hW
 clear r1 r2 r3 o1 o2 o3 g1 g2 g3 hmm hW
 go_loopw [37] (fun i wr=>∃n:Nat,n<=11∧i=.int .i64 (n:Int)∧wr.ownsMap prog 9 A7 w.heap.size (3+10*n) (Gs.tabOf (Gs.ents n))∧W.grownBy wr (some w.heap.size)∧Ext w wr) (fun i _=>11-(intOf i).toNat)
 case atStart=>have hW:=HWE.out;subst hW;exact⟨0,U0 _,rfl,oW,World.grownBy.refl _ _,hxW⟩
 case round=>clear oW hxW;obtain⟨n,hn,rfl,hown,hgr,hxr⟩:=hrel;by_cases hlt:n<11;(·obtain⟨p,hp,q0,q1,q2,q3,q4⟩:=dJ n hlt;have HES:=B0 (dF n p hp);have HSM:=B0 (dI p (I1 hp));obtain⟨pw,pk,pl,pm,ps⟩:=p;dsimp only at q0 q1 q2 q3 q4 HSM;have c0:=(HC.out wr hgr (n*5)).trans q0;have c1:=(HC.out wr hgr (n*5+1)).trans q1;have c2:=(HC.out wr hgr (n*5+2)).trans q2;have c3:=(HC.out wr hgr (n*5+3)).trans q3;have c4:=(HC.out wr hgr (n*5+4)).trans q4;obtain⟨P,hP⟩:∃P:ByteArray,P=⟨pw.toArray⟩:=⟨_,rfl⟩;rw[<-hP]at c0;have HP:Hid (P.data.toList=pw):=B0 (by rw[hP]);clear q0 q1 q2 q3 q4 hp hP;obtain⟨wo,rfl⟩:∃wo:World,wo=wr:=⟨_,rfl⟩;obtain⟨V,hV⟩:∃V:World,V=wo.alloc (.cells #[.string P,.int .i64 pk,.int .i64 pl,.int .i64 pm,.int .u8 (ps.toNat:Int)] 139):=⟨_,rfl⟩;have hxV:Ext w V:=(by rw[hV];exact hxr.alloc _);obtain⟨s1,s2,s3,s4⟩:=HSM.out;have HFD:=B0 (Tryz.strings_Fields P V (by rw[<-Za,HP.out];omega) (fun j b hj=>s2 b (by rw[<-HP.out];exact I1 hj)) (Zj HT.out hxV));rw[HP.out]at HFD;have HFK:Hid (∀(m:Nat) (k:List UInt8),(Lib.fields pw)[m]? =some k->k.length<=10):=B0 (fun m k h=>s4 k (I1 h));have HWD:Hid (∀(m:Nat) (k:List UInt8),(Lib.fields pw)[m]? =some k->(Gs.words (pw,pk,pl,pm,ps)).take (m+1)=(Gs.words (pw,pk,pl,pm,ps)).take m++[(k,pk,pl,pm,ps)]):=B0 (fun m k h=>by unfold Gs.words;rw[R5,X2,h];rfl);have HWL:Hid ((Gs.words (pw,pk,pl,pm,ps)).take (Lib.fields pw).length=Gs.words (pw,pk,pl,pm,ps)):=B0 (P1 (by simp[Gs.words]));generalize Gs.words (pw,pk,pl,pm,ps)=WD at*;have hFl:(Lib.fields pw).length<=10:=s3;generalize Lib.fields pw=F at*;have hVs:V.heap.size=wo.heap.size+1:=(by rw[hV];simp);have hws3:w3.heap.size+1<=wo.heap.size:=(by have:=hgr.size;omega);obtain⟨X,hX⟩:∃X:World,X=V.alloc (.cells (F.map fun l=>Value.string ⟨l.toArray⟩).toArray 9):=⟨_,rfl⟩;have hXs:X.heap.size=wo.heap.size+2:=(by rw[hX];exact E1);have hXk:X.heap[V.heap.size]? =some (.cells (F.map fun l=>Value.string ⟨l.toArray⟩).toArray 9):=(by rw[hX];exact UO);have hXv:X.heap[wo.heap.size]? =some (.cells #[.string P,.int .i64 pk,.int .i64 pl,.int .i64 pm,.int .u8 (ps.toNat:Int)] 139):=(by have h1:V.heap[wo.heap.size]? =some (.cells #[.string P,.int .i64 pk,.int .i64 pl,.int .i64 pm,.int .u8 (ps.toNat:Int)] 139):=(by rw[hV];exact UO);rw[<-h1,hX];exact(LZ V _ none).block wo.heap.size C0 L0);have HCX:Hid (∀wq,X.grownBy wq (some w.heap.size)->(∀(m:Nat) (k:List UInt8),F[m]? =some k->wq.cell? ⟨wo.heap.size+1,m,none⟩=some (.string ⟨k.toArray⟩))∧wq.cell? ⟨wo.heap.size,1,none⟩=some (.int .i64 pk)∧wq.cell? ⟨wo.heap.size,2,none⟩=some (.int .i64 pl)∧wq.cell? ⟨wo.heap.size,3,none⟩=some (.int .i64 pm)∧wq.cell? ⟨wo.heap.size,4,none⟩=some (.int .u8 (ps.toNat:Int))):=B0 (fun wq hg=>by have e1:=(hg.block V.heap.size C0 LY).trans hXk;have e2:=(hg.block wo.heap.size C0 LY).trans hXv;refine⟨fun m k hk=> ?_,?_,?_,?_,?_⟩;(·unfold World.cell?;rw[hVs]at e1;rw[e1];simp[hk]);all_goals unfold World.cell?;rw[e2];rfl);have oX:X.ownsMap prog 9 A7 w.heap.size (3+10*n) (Gs.tabOf (Gs.ents n)):=(by rw[hX,hV];exact(hown.alloc _).alloc _);have gX:W.grownBy X (some w.heap.size):=(by rw[hX,hV];exact RW (RW hgr (LZ _ _ _)) (LZ _ _ _));have hxX:Ext w X:=(by rw[hX];exact hxV.alloc _);rw[<-hX]at HFD;have HVE:=B0 hV;clear hV hX hXk hXv hown hgr hxr hxV s1 s2 s3 s4;go_wp2_with fail;rw[<-HVE.out];refine HFD.out.mono ?_;rintro e w5 ⟨rfl,rfl⟩;clear c0 c1 c2 c3 c4;go_wp2;go_loopw [45] (fun i wq=>∃m:Nat,m<=F.length∧i=.int .i64 (m:Int)∧wq.ownsMap prog 9 A7 w.heap.size (3+10*n+m) (Gs.tabOf (Gs.ents n++WD.take m))∧w5.grownBy wq (some w.heap.size)∧Ext w wq) (fun i _=>F.length-(intOf i).toNat);(case atStart=>exact⟨0,U0 _,rfl,by simpa using oX,World.grownBy.refl _ _,hxX⟩);case round=>clear oX hxX;obtain⟨m,hm,rfl,hown,hgq,hxq⟩:=hrel;by_cases hml:m<F.length;(·obtain⟨k,hk⟩:∃k,F[m]? =some k:=⟨_,P0 hml⟩;obtain⟨f1,d1,d2,d3,d4⟩:=HCX.out wr hgq;have f0:=f1 m k hk;have hkl:=HFK.out m k hk;have HT1:=B0 (HWD.out m k hk);obtain⟨KB,hKB⟩:∃KB:ByteArray,KB=⟨k.toArray⟩:=⟨_,rfl⟩;rw[<-hKB]at f0;have hkey:keyOf prog 9 (.string KB)=some (.string k):=(by rw[RV KB (by rw[hKB];simp[ByteArray.size];omega),hKB]);clear f1 hk hKB;go_wp2_with (at_mapUpdate;go_loud (refine wpList_mapUpdate_own _ rfl _ _ _ 78 rfl 9 138 K underlying78 A7 w.heap.size _ _ rfl hown G5 _ _ _ rfl rfl hkey (E8 (pk,pl,pm,ps)) [] rfl ?_));intro w6 hown6 hg6;have hx6:=hxq.ofGrown hg6 (fun j hj=>by cases hj;exact I0 _);have hg56:=RW hgq hg6;clear hown hgq hxq hg6 hkey f0 d1 d2 d3 d4;go_wp2;go_roundw;(case rel=>exact⟨m+1,by omega,by go_num,by rw[HT1.out,<-G1,AY];exact hown6,hg56,hx6⟩);case measure=>exact QD);·obtain rfl:m=F.length:=C0;rw[HWL.out,<-HES.out]at hown;have hg7:=RW gX hgq;clear hm hml hgq;go_wp2;go_roundw;(case rel=>exact⟨n+1,by omega,by go_num,hown.mono C0,hg7,hxq⟩);case measure=>exact QD);·obtain rfl:n=11:=C0;clear hn hlt;go_wp2;go_ret;exact⟨w.heap.size,rfl,hown.mono C0,I0 _,hxr⟩
end
end Go.Proofs.YtbngggoccndefaaGreatDoor
