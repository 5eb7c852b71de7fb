/-
  Laid together.
-/
import Derived.Test.YtbngggoccndefaaGreatDoorDd01
set_option maxHeartbeats 16000000
set_option maxRecDepth 100000
set_option linter.unusedVariables false
set_option linter.unusedSimpArgs false
set_option linter.ambiguousOpen false
namespace Go.Proofs.YtbngggoccndefaaGreatDoor
open Go.Proofs.Tryz
section
namespace Rn
def runsGo:Bool->Nat->List Bool->List Nat
 |_,n,[]=>[n]
 |c,n,b::r=>if b=c then runsGo c (n+1) r else n::runsGo b 1 r
def core (s:List Bool):List Bool:=(s.drop (Ea.ldg s)).take (s.length-Ea.trl s-Ea.ldg s)
def widthsN (s:List Bool):List Nat:=match core s with
 | []=>[]
 |b::r=>runsGo b 1 r
def widths (s:List Bool):List Int:=(widthsN s).map fun(n:Nat)=>(n:Int)
def mods:Bool->List Int->List Bool
 |_,[]=>[]
 |b,x::r=>List.replicate x.toNat b++mods (!b) r
def sum (ws:List Int):Int:=ws.foldl (·+·) 0
def modules (ws:List Int):List Bool×Int:=
 if ws.length=0 then([],5)else if ws.length%2=0 then([],7)else if Tw.inRng ws=false then([],3)else if 65536<sum ws then([],4)else(mods true ws,0)
def gcdGo:Nat->List Int->Int
 |g,[]=>(g:Int)
 |g,x::r=>if x<1 then 0 else gcdGo (Nat.gcd g x.toNat) r
def unit (ws:List Int):Int:=gcdGo 0 ws
def need (s t:Int) (m w:Int):Int:=s*m-t*w
def leastGo (s t:Int):Nat->Nat->Int->List Int->List Int->Nat
 |_,b,_,[],_=>b
 |_,b,_,_,[]=>b
 |i,b,v,m::ms,w::ws=>if need s t m w<v then leastGo s t (i+1) i (need s t m w) ms ws else leastGo s t (i+1) b v ms ws
def least (s t:Int) (ms ws:List Int):Nat:=leastGo s t 1 0 (need s t (ms.getD 0 0) (ws.getD 0 0)) (ms.drop 1) (ws.drop 1)
def give (s t:Int) (ws:List Int):Nat->List Int->List Int
 |0,ms=>ms
 |n+1,ms=>give s t ws n (ms.set (least s t ms ws) (ms.getD (least s t ms ws) 0+1))
def quant (ws:List Int) (t:Int):List Int×Int:=
 if ws.length=0 then([],5)else if 65536<ws.length then([],4)else if Tw.inRng ws=false∨t<ws.length∨65536<t then([],3)
 else(give (sum ws) t ws (t.toNat-ws.length) (List.replicate ws.length 1),0)
theorem runsGo_app (c:Bool):∀(n:Nat) (k:Nat) (r:List Bool),runsGo c n (List.replicate k c++r)=runsGo c (n+k) r
 |n,0,r=>rfl
 |n,k+1,r=>by rw[ZnG,Zny,runsGo,ZmH rfl,runsGo_app c (n+1) k r];congr 1;omega
theorem leastGo_at (s t:Int):∀(ms ws:List Int) (i b:Nat) (v:Int),ms.length=ws.length->
 (leastGo s t i b v ms ws=b∧(∀(k:Nat) (m w:Int),ms[k]? =some m->ws[k]? =some w->v<=need s t m w))∨
 (∃(k:Nat) (m w:Int),leastGo s t i b v ms ws=i+k∧ms[k]? =some m∧ws[k]? =some w∧need s t m w<v∧(∀(j:Nat) (m' w':Int),ms[j]? =some m'->ws[j]? =some w'->need s t m w<=need s t m' w')∧∀(j:Nat) (m' w':Int),j<k->ms[j]? =some m'->ws[j]? =some w'->need s t m w<need s t m' w')
 | [],ws,i,b,v,h=>.inl ⟨rfl,fun k m w hm=>by simp at hm⟩
 |m::ms,[],i,b,v,h=>by cases h
 |m::ms,w::ws,i,b,v,h=>by
  have hl:ms.length=ws.length:=Qh1;rw[leastGo];by_cases hc:need s t m w<v
  ·rw[ZmH hc];right;rcases leastGo_at s t ms ws (i+1) i (need s t m w) hl with⟨h1,h2⟩|⟨k,m',w',h1,h2,h3,h4,h5,h6⟩
   ·refine⟨0,m,w,by rw[h1];rfl,rfl,rfl,hc,?_,fun j _ _ hj=>by omega⟩
    intro j m' w' hm hw
    cases j with
    |zero=>simp at hm hw;subst hm hw;exact Int.le_refl _
    |succ j=>exact h2 j m' w' Qid Qil
   ·refine⟨k+1,m',w',by rw[h1];omega,by simpa using h2,by simpa using h3,by omega,?_,?_⟩
    ·intro j a c hm hw
     cases j with
     |zero=>simp at hm hw;subst hm hw;omega
     |succ j=>exact h5 j a c Qid Qil
    ·intro j a c hj hm hw
     cases j with
     |zero=>simp at hm hw;subst hm hw;exact h4
     |succ j=>exact h6 j a c QhN Qid Qil
  ·rw[ZmF hc];rcases leastGo_at s t ms ws (i+1) b v hl with⟨h1,h2⟩|⟨k,m',w',h1,h2,h3,h4,h5,h6⟩
   ·left
    refine⟨h1,fun j a c hm hw=> ?_⟩
    cases j with
    |zero=>simp at hm hw;subst hm hw;omega
    |succ j=>exact h2 j a c Qid Qil
   ·right;refine⟨k+1,m',w',by rw[h1];omega,by simpa using h2,by simpa using h3,h4,?_,?_⟩
    ·intro j a c hm hw
     cases j with
     |zero=>simp at hm hw;subst hm hw;omega
     |succ j=>exact h5 j a c Qid Qil
    ·intro j a c hj hm hw
     cases j with
     |zero=>simp at hm hw;subst hm hw;omega
     |succ j=>exact h6 j a c QhN Qid Qil
theorem least_is {s t:Int} {ms ws:List Int} (hl:ms.length=ws.length) {k:Nat} {m w:Int} (hm:ms[k]? =some m) (hw:ws[k]? =some w)
 (h1:∀(j:Nat) (m' w':Int),ms[j]? =some m'->ws[j]? =some w'->need s t m w<=need s t m' w') (h2:∀(j:Nat) (m' w':Int),j<k->ms[j]? =some m'->ws[j]? =some w'->need s t m w<need s t m' w'):least s t ms ws=k:=by
 cases ms with
 |nil=>simp at hm
 |cons m0 ms=>
  cases ws with
  |nil=>cases hl
  |cons w0 ws=>
   have hl':ms.length=ws.length:=(by simpa using hl);unfold least;simp only[Zpv,Zpb,Zoh];rcases leastGo_at s t ms ws 1 0 (need s t m0 w0) hl' with⟨h3,h4⟩|⟨j,m',w',h3,h4,h5,h6,h7,h8⟩
   ·rw[h3]
    cases k with
    |zero=>rfl
    |succ k=>have a:=h2 0 m0 w0 QhN rfl rfl;have b:=h4 k m w Qid Qil;omega
   ·rw[h3]
    cases k with
    |zero=>simp at hm hw;subst hm hw;have:=h1 (j+1) m' w' Qjz QjA;omega
    |succ k=>have hm':ms[k]? =some m:=Qid;have hw':ws[k]? =some w:=Qil;rcases Zq4 j k with hjk|hjk|hjk;(·have a:=h2 (j+1) m' w' QhN Qjz QjA;have b:=h7 k m w hm' hw';omega);(·omega);·have a:=h8 k m w hjk hm' hw';have b:=h1 (j+1) m' w' Qjz QjA;omega
end Rn
namespace Cc
def pats:List (List Int):=[[2,1,2,2,2,2],[2,2,2,1,2,2],[2,2,2,2,2,1],[1,2,1,2,2,3],[1,2,1,3,2,2],[1,3,1,2,2,2],[1,2,2,2,1,3],[1,2,2,3,1,2],[1,3,2,2,1,2],[2,2,1,2,1,3],[2,2,1,3,1,2],[2,3,1,2,1,2],[1,1,2,2,3,2],[1,2,2,1,3,2],[1,2,2,2,3,1],[1,1,3,2,2,2],[1,2,3,1,2,2],[1,2,3,2,2,1],[2,2,3,2,1,1],[2,2,1,1,3,2],[2,2,1,2,3,1],[2,1,3,2,1,2],[2,2,3,1,1,2],[3,1,2,1,3,1],[3,1,1,2,2,2],[3,2,1,1,2,2],[3,2,1,2,2,1],[3,1,2,2,1,2],[3,2,2,1,1,2],[3,2,2,2,1,1],[2,1,2,1,2,3],[2,1,2,3,2,1],[2,3,2,1,2,1],[1,1,1,3,2,3],[1,3,1,1,2,3],[1,3,1,3,2,1],[1,1,2,3,1,3],[1,3,2,1,1,3],[1,3,2,3,1,1],[2,1,1,3,1,3],[2,3,1,1,1,3],[2,3,1,3,1,1],[1,1,2,1,3,3],[1,1,2,3,3,1],[1,3,2,1,3,1],[1,1,3,1,2,3],[1,1,3,3,2,1],[1,3,3,1,2,1],[3,1,3,1,2,1],[2,1,1,3,3,1],[2,3,1,1,3,1],[2,1,3,1,1,3],[2,1,3,3,1,1],[2,1,3,1,3,1],[3,1,1,1,2,3],[3,1,1,3,2,1],[3,3,1,1,2,1],[3,1,2,1,1,3],[3,1,2,3,1,1],[3,3,2,1,1,1],[3,1,4,1,1,1],[2,2,1,4,1,1],[4,3,1,1,1,1],[1,1,1,2,2,4],[1,1,1,4,2,2],[1,2,1,1,2,4],[1,2,1,4,2,1],[1,4,1,1,2,2],[1,4,1,2,2,1],[1,1,2,2,1,4],[1,1,2,4,1,2],[1,2,2,1,1,4],[1,2,2,4,1,1],[1,4,2,1,1,2],[1,4,2,2,1,1],[2,4,1,2,1,1],[2,2,1,1,1,4],[4,1,3,1,1,1],[2,4,1,1,1,2],[1,3,4,1,1,1],[1,1,1,2,4,2],[1,2,1,1,4,2],[1,2,1,2,4,1],[1,1,4,2,1,2],[1,2,4,1,1,2],[1,2,4,2,1,1],[4,1,1,2,1,2],[4,2,1,1,1,2],[4,2,1,2,1,1],[2,1,2,1,4,1],[2,1,4,1,2,1],[4,1,2,1,2,1],[1,1,1,1,4,3],[1,1,1,3,4,1],[1,3,1,1,4,1],[1,1,4,1,1,3],[1,1,4,3,1,1],[4,1,1,1,1,3],[4,1,1,3,1,1],[1,1,3,1,4,1],[1,1,4,1,3,1],[3,1,1,1,4,1],[4,1,1,1,3,1],[2,1,1,4,1,2],[2,1,1,2,1,4],[2,1,1,2,3,2]]
def stopP:List Int:=[2,3,3,1,1,1,2]
def valOf (w:List Int):Option Nat:=pats.findIdx? fun p=>p==w
def valsGo:Nat->List Int->Option (List Int)
 |0,_=>some []
 |n+1,w=>match valOf (w.take 6)with
  |none=>none
  |some v=>(valsGo n (w.drop 6)).map fun l=>(v:Int)::l
def chOf (v:Int) (set:Nat):Int:=if set=0∧64<=v then v-64 else v+32
def stepC (set:Nat) (sh:Bool) (v:Int):Option (Nat×Bool×List Int):=
 if sh then(if 95<v then none else some (set,false,[chOf v (1-set)]))
 else if 102<v then none
 else if v=102 then some (set,false,[256])
 else if set=2∧v<=99 then some (set,false,[48+v/10,48+v%10])
 else if v<=95 then some (set,false,[chOf v set])
 else if v=96 then some (set,false,[258])
 else if v=97 then some (set,false,[257])
 else if v=98 then some (set,true,[])
 else if v=99 then some (2,false,[])
 else if v=100∧set≠1 then some (1,false,[])
 else if v=101∧set≠0 then some (0,false,[])
 else some (set,false,[259])
def runC:Nat->Bool->List Int->List Int->Option (List Int)
 |_,sh,out,[]=>if sh then none else some out
 |set,sh,out,v::r=>match stepC set sh v with
  |none=>none
  |some (s',h',o)=>runC s' h' (out++o) r
def chkGo:Nat->Int->List Int->Int
 |_,s,[]=>s
 |i,s,v::r=>chkGo (i+1) ((s+(i:Int)*v)%103) r
def chk (vs:List Int):Int:=chkGo 0 (vs.getD 0 0) vs
def chars (vs:List Int):List Int×Int:=
 if vs.any (fun v=>decide (v<0) || decide (106<v))then([],3)
 else if vs.length<3 then([],7)
 else if vs.getD 0 0<103∨105<vs.getD 0 0 then([],19)
 else if vs.getD (vs.length-1) 0≠106 then([],20)
 else if vs.getD (vs.length-2) 0≠chk (vs.take (vs.length-2))then([],8)
 else match runC (vs.getD 0 0-103).toNat false [] ((vs.take (vs.length-2)).drop 1)with
  |none=>([],22)
  |some o=>(o,0)
def dec (row:List Bool):List Int×Int:=
 if Rn.core row=[]then([],5)
 else if Ea.ldg row<10∨Ea.trl row<10 then([],9)
 else if(Rn.widths row).length<19∨((Rn.widths row).length-7)%6≠0 then([],7)
 else if(Rn.widths row).drop ((Rn.widths row).length-7)≠stopP then([],20)
 else match valsGo (((Rn.widths row).length-7)/6) (Rn.widths row)with
  |none=>([],18)
  |some vs=>chars (vs++[106])
end Cc
end
end Go.Proofs.YtbngggoccndefaaGreatDoor
namespace Go.Proofs.YtbngggoccndefaaGreatDoor
open Go.Proofs.Tryz
section
open Go.RowKit
def Ext (w w':World):Prop:=Below w.heap.size w w'
theorem Ext.refl (w:World):Ext w w:=ZpM _ _
theorem Ext.trans {a b c:World} (h:Ext a b) (k:Ext b c):Ext a c:=Zpm h (Below.mono k (Below.size h))
theorem Ext.alloc {a w:World} (h:Ext a w) (o:Obj):Ext a (w.alloc o):=Below.alloc h (Below.size h) o
theorem Ext.drew {a w:World} (h:Ext a w):Ext a w.drew:=Below.drew h
theorem Ext.size {a w:World} (h:Ext a w):a.heap.size<=w.heap.size:=Below.size h
theorem Ext.cell {a w:World} (h:Ext a w) {p:Addr} (hp:p.block<a.heap.size):w.cell? p=a.cell? p:=Below.cell h hp
theorem Ext.frozen {a w:World} (h:Ext a w) {p:Addr} (hp:p.block<a.heap.size):w.frozen? p=a.frozen? p:=Below.frozen h hp
theorem Ext.setCell {a w:World} (h:Ext a w) {p:Addr} (hp:a.heap.size<=p.block) (u:Value):Ext a (w.setCell p u):=Below.setCell h hp u
theorem Ext.drewN {a w:World} (h:Ext a w) (n:Nat):Ext a (w.drewN n):=⟨h.os,h.tape,h.output,h.size,h.block⟩
structure Ahead (w:World)where
 at':World
 ext:Ext w at'
instance (w:World):Nonempty (Ahead w):=⟨⟨w,Ext.refl _⟩⟩
theorem Ahead.drawn (w:World):∃x:Ahead w,{w with drawn:=w.drawn+1}=x.at':=⟨⟨w.drew,(Ext.refl _).drew⟩,rfl⟩
theorem Zn {P:Program} {f:FuncId} {args:Array Value} {w:World} {x:Ahead w} {v:Value}
 (h:Calls P f args x.at' fun e w'=>e=.returned v∧Ext x.at' w'):Calls P f args x.at' fun e w''=>e=.returned v∧∃y:Ahead w,w''=y.at':=
 h.mono fun _ w' ⟨he,hw⟩=>⟨he,⟨w',x.ext.trans hw⟩,rfl⟩
theorem Zt {k:IntKind} {a b:Int} (h:a=b):Ending.returned (.int k a)=.returned (.int k b):=by rw[h]
theorem Zi {a b:Bool} (h:a=b):Ending.returned (.bool a)=.returned (.bool b):=by rw[h]
theorem Z0 {a b:ByteArray} (h:a=b):Ending.returned (.string a)=.returned (.string b):=by rw[h]
theorem Z4 (s:ByteArray) (k:Nat) (h:k<s.size):s.data.toList.take (k+1)=s.data.toList.take k++[s[k]]:=by rw[ZnL Qh1];rfl
theorem ZV (s:ByteArray) (k:Nat) (h:k<s.size):s.data.toList.drop k=s[k]::s.data.toList.drop (k+1):=by rw[Zn3 Qh1];rfl
theorem Zb (s:ByteArray):s.data.toList.length=s.size:=Zpc
theorem ZU (s:ByteArray):s.data.toList.drop s.size=[]:=ZnD (by rw[Zb];exact ZmK _)
theorem Zx (s:ByteArray):s.data.toList.take s.size=s.data.toList:=ZmW (by rw[Zb];exact ZmK _)
theorem Zz (s:ByteArray) (k:Nat):(s.data.toList.drop k).length=s.size-k:=by rw[Znr,Zb]
theorem Zaj (s:ByteArray) (k:Nat) (h:k<=s.size):(s.data.toList.take k).length=k:=by rw[ZmY,Zb];omega
theorem Zj (s:ByteArray) (k:Nat) (h:k<s.size):s[k]∈s.data.toList:=by have:s[k]=s.data.toList[k]' Qi3:=rfl;rw[this];exact QhG
theorem Zr (s:ByteArray) (n:Nat):(s.extract 0 n).data.toList=s.data.toList.take n:=by rw[Lib.extract_data];simp
theorem Z2 (s:ByteArray) (n:Nat):(s.extract n s.size).data.toList=s.data.toList.drop n:=Lib.extract_to_end s n
theorem Zs (s:ByteArray) (a b:Nat):(s.extract a b).data.toList=(s.data.toList.drop a).take (b-a):=Lib.extract_data s a b
theorem Zc {s:ByteArray} {l:List UInt8} (h:s.data.toList=l):s.size=l.length:=by rw[<-h,Zb]
theorem Zh {a b:ByteArray} (h:a.data.toList=b.data.toList):a=b:=by cases a;cases b;congr 1;exact Array.toList_inj.1 h
theorem Zy (s:ByteArray):(⟨s.data.toList.toArray⟩:ByteArray)=s:=by cases s;simp
theorem Xe {w w':World} (h:Ext w w':=by repeat(first|exact Ext.refl _|assumption|refine Ext.alloc ?_ _|refine Ext.drew ?_|refine Ext.trans ?_ (by assumption))):Ext w w':=h
theorem Xf {w w':World} (h:Ext w w':=by repeat(first|exact Ext.refl _|assumption|refine Ext.alloc ?_ _|refine Ext.drew ?_|refine Ext.drewN ?_ _|refine Ext.setCell ?_ (ZmK _) _|refine Ext.trans ?_ (by assumption))):Ext w w':=h
end
end Go.Proofs.YtbngggoccndefaaGreatDoor
namespace Go.Proofs.YtbngggoccndefaaGreatDoor
open Go.Proofs.Tryz
section
open Go.RowKit Go.WideMaps Go.Maps
abbrev Gs.Rule:=Int×Int×Int×UInt8
def Gs.base:List (List UInt8×Gs.Rule):=[([48,48],(1,18,18,0)),([50,48],(0,2,2,0)),([56,48,50,48],(3,1,25,0))]
def Gs.lists:List (List UInt8×Gs.Rule):=[
 ([48,49,32,48,50],(1,14,14,0)),
 ([49,49,32,49,50,32,49,51,32,49,53,32,49,54,32,49,55],(2,6,6,0)),
 ([51,49,48,32,51,49,49,32,51,49,50,32,51,49,51,32,51,49,52,32,51,49,53,32,51,49,54],(0,6,6,53)),
 ([51,50,48,32,51,50,49,32,51,50,50,32,51,50,51,32,51,50,52,32,51,50,53,32,51,50,54,32,51,50,55,32,51,50,56,32,51,50,57],(0,6,6,53)),
 ([51,51,48,32,51,51,49,32,51,51,50,32,51,51,51,32,51,51,52,32,51,51,53,32,51,51,54,32,51,51,55],(0,6,6,53)),
 ([52,49,48,32,52,49,49,32,52,49,50,32,52,49,51,32,52,49,52,32,52,49,53,32,52,49,54,32,52,49,55],(1,13,13,0)),
 ([51,48,32,51,55],(0,1,8,0)),
 ([51,57,48,32,51,57,50],(0,1,15,57)),
 ([49,48,32,50,49,32,50,50,32,50,53,52],(3,1,20,0)),
 ([50,52,48,32,50,52,49,32,50,53,48,32,50,53,49,32,52,48,48,32,52,48,49,32,52,48,51,32,57,48],(3,1,30,0)),
 ([57,49,32,57,50,32,57,51,32,57,52,32,57,53,32,57,54,32,57,55,32,57,56,32,57,57],(3,1,90,0))]
def Gs.words (p:List UInt8×Gs.Rule):List (List UInt8×Gs.Rule):=(Lib.fields p.1).map fun k=>(k,p.2)
def Gs.ents (n:Nat):List (List UInt8×Gs.Rule):=Gs.base++(Gs.lists.take n).flatMap Gs.words
theorem Zh0 (n:Nat) (p:List UInt8×Gs.Rule) (h:Gs.lists[n]? =some p):Gs.ents (n+1)=Gs.ents n++Gs.words p:=by unfold Gs.ents;rw[Zo4,h,ZoF];simp
def ruleV (r:Gs.Rule):Value:=.agg #[.int .i64 r.1,.int .i64 r.2.1,.int .i64 r.2.2.1,.int .u8 (r.2.2.2.toNat:Int)]
def ruleD (r:Gs.Rule):DataW Unit:=.agg [.lit (.int .i64 r.1),.lit (.int .i64 r.2.1),.lit (.int .i64 r.2.2.1),.lit (.int .u8 (r.2.2.2.toNat:Int))]
def ruleR (v:Value):Option (DataW Unit×List MemPlace):=match v with
 | .agg ⟨[.int .i64 a,.int .i64 b,.int .i64 c,.int .u8 d]⟩=>some (.agg [.lit (.int .i64 a),.lit (.int .i64 b),.lit (.int .i64 c),.lit (.int .u8 d)],[])
 |_=>none
theorem ZbB (r:Gs.Rule):ruleR (ruleV r)=some (ruleD r,[]):=rfl
theorem ZdU {v:Value} {r:Gs.Rule} {ps:List MemPlace} (h:ruleR v=some (ruleD r,ps)):v=ruleV r:=by
 unfold ruleR at h;split at h;·unfold ruleD at h;simp only[Znl,Zn4,DataW.agg.injEq,Zp0,DataW.lit.injEq,Lit.int.injEq,ZpJ,true_and]at h;obtain⟨⟨rfl,rfl,rfl,rfl⟩,_⟩:=h;rfl
 ·simp at h
def Gs.tabOf (l:List (List UInt8×Gs.Rule)):DataW Unit:=l.foldl (fun m p=>m.put (.string p.1) (ruleD p.2)) (.map [])
theorem Zdr (l:List (List UInt8×Gs.Rule)) (p:List UInt8×Gs.Rule):Gs.tabOf (l++[p])=(Gs.tabOf l).put (.string p.1) (ruleD p.2):=by simp[Gs.tabOf]
theorem ZdX (l:List (List UInt8×Gs.Rule)):IsMap (Gs.tabOf l):=by
 unfold Gs.tabOf;have:∀(l:List (List UInt8×Gs.Rule)) (m:DataW Unit),IsMap m->IsMap (l.foldl (fun m p=>m.put (.string p.1) (ruleD p.2)) m):=by
  intro l
  induction l with
  |nil=>intro m h;exact h
  |cons p l ih=>intro m h;exact ih _ (h.put _ _)
 exact this l _ isMap_empty
def Gs.get (l:List (List UInt8×Gs.Rule)) (k:List UInt8):Option Gs.Rule:=(l.reverse.find? fun p=>p.1==k).map (·.2)
theorem ZiO (l:List (List UInt8×Gs.Rule)) (p:List UInt8×Gs.Rule) (k:List UInt8):Gs.get (l++[p]) k=if p.1=k then some p.2 else Gs.get l k:=by
 unfold Gs.get;rw[ZnP];simp only[Zo5,List.reverse_nil,Zod,List.singleton_append,List.find?_cons];by_cases h:p.1=k;·simp[h]
 ·have:(p.1==k)=false:=Qh1;simp[h,this]
theorem Zim (l:List (List UInt8×Gs.Rule)) (k:List UInt8):Maps.has (Gs.tabOf l) (.string k)=(Gs.get l k).isSome∧∀z r,Gs.get l k=some r->(Gs.tabOf l).atKey (.string k) z=ruleD r:=by
 have key:∀n (l:List (List UInt8×Gs.Rule)),l.length=n->Maps.has (Gs.tabOf l) (.string k)=(Gs.get l k).isSome∧∀z r,Gs.get l k=some r->(Gs.tabOf l).atKey (.string k) z=ruleD r:=by
  intro n
  induction n with
  |zero=>intro l hl;obtain rfl:=Znq hl;exact⟨rfl,fun z r h=>by simp[Gs.get]at h⟩
  |succ n ih=>intro l hl;obtain⟨m,p,rfl⟩:∃m p,l=m++[p]:=⟨l.dropLast,l.getLast (by intro e;rw[e]at hl;simp at hl),(Zp7 _).symm⟩;have ihm:=ih m (by simpa using hl);rw[Zdr,ZiO];by_cases h:p.1=k;(·rw[ZmH h,<-h];refine⟨by rw[has_put_same (ZdX m) (show WideAt.IsKeyLit (.string _)from trivial)];rfl,fun z r hr=> ?_⟩;simp only[Znl]at hr;rw[<-hr];exact atKey_put_same (ZdX m) (show WideAt.IsKeyLit (.string _)from trivial) _ _);·rw[ZmF h];have hne:(Lit.string k)≠ .string p.1:=fun e=>h (by injection e with e;exact e.symm);rw[has_put_other hne];exact⟨ihm.1,fun z r hr=>by rw[atKey_put_other hne];exact ihm.2 z r hr⟩
 exact key l.length l rfl
def Gs.dir:List (List UInt8×Gs.Rule):=Gs.ents 11
theorem Zf3:∀p∈Gs.lists,p.1.length<=100∧(∀b∈p.1,b.toNat<128)∧(Lib.fields p.1).length<=10∧∀k∈Lib.fields p.1,k.length<=10:=Qct
theorem Zv {w w':World} {n:String} {q:IntKind} {zs:List Int} (h:Lib.TabIs prog w n q zs) (hx:Ext w w'):Lib.TabIs prog w' n q zs:=by
 unfold Lib.TabIs World.var? at h⊢
 cases hg:prog.globalNamed n with
 |none=>rw[hg]at h;simp at h
 |some g=>rw[hg]at h;simp only[Option.bind_some]at h⊢;have hlt:g<w.heap.size:=(by rcases ZnY g w.heap.size with hh|hh;(·exact hh);·rw[Zo3 hh]at h;simp at h);rw[hx.block g hlt];exact h
end
end Go.Proofs.YtbngggoccndefaaGreatDoor
section
namespace Go.Proofs
open Go.Shelf
def Tryz.lays170_ren:Go.Shelf.Ren:=⟨fun|170=>60|n=>n,fun|70=>89|3=>3|0=>0|72=>92|37=>90|5=>5|n=>n,fun|n=>n⟩
theorem Tryz.lays170:Go.Proofs.Lays.n170 Tryz.prog Tryz.lays170_ren:= {
 mixed:=Qdu
 f170:=Tryz.func60.trans (Znb some QhO)
 t0:=Tryz.underlying0
 a0:=Tryz.isAgg0
 z0:=Tryz.sizeOf0
 v0:=Tryz.zeroValue0
 t3:=Tryz.underlying3
 a3:=Tryz.isAgg3
 z3:=Tryz.sizeOf3
 v3:=Tryz.zeroValue3
 t37:=Tryz.underlying90
 a37:=Tryz.isAgg90
 z37:=Tryz.sizeOf90
 v37:=Tryz.zeroValue90
 t70:=Tryz.underlying89
 a70:=Tryz.isAgg89
 z70:=Tryz.sizeOf89
 v70:=Tryz.zeroValue89
 t72:=Tryz.underlying92
 a72:=Tryz.isAgg92
 z72:=Tryz.sizeOf92
 v72:=Tryz.zeroValue92}
open Go.RowKit in
theorem Tryz.Builder_Len (B b:Nat) (bs:List Value) (w:World) (h:Lib.IsBuilder 92 5 B b bs w):
 Calls Tryz.prog 60 #[.pointer (some ⟨b,0,none⟩)] w fun e w'=>e=.returned (.int .i64 bs.length)∧w'=w:=Any.Builder_Len Tryz.lays170 B b bs w h
def Tryz.lays169_ren:Go.Shelf.Ren:=⟨fun|169=>61|n=>n,fun|70=>89|9=>9|0=>0|72=>92|37=>90|127=>145|3=>3|5=>5|n=>n,fun|n=>n⟩
theorem Tryz.lays169:Go.Proofs.Lays.n169 Tryz.prog Tryz.lays169_ren:= {
 mixed:=Qdu
 f169:=Tryz.func61.trans (Znb some QhO)
 t0:=Tryz.underlying0
 a0:=Tryz.isAgg0
 z0:=Tryz.sizeOf0
 v0:=Tryz.zeroValue0
 t3:=Tryz.underlying3
 a3:=Tryz.isAgg3
 z3:=Tryz.sizeOf3
 v3:=Tryz.zeroValue3
 t9:=Tryz.underlying9
 a9:=Tryz.isAgg9
 z9:=Tryz.sizeOf9
 v9:=Tryz.zeroValue9
 t37:=Tryz.underlying90
 a37:=Tryz.isAgg90
 z37:=Tryz.sizeOf90
 v37:=Tryz.zeroValue90
 t70:=Tryz.underlying89
 a70:=Tryz.isAgg89
 z70:=Tryz.sizeOf89
 v70:=Tryz.zeroValue89
 t72:=Tryz.underlying92
 a72:=Tryz.isAgg92
 z72:=Tryz.sizeOf92
 v72:=Tryz.zeroValue92
 t127:=Tryz.underlying145
 a127:=Tryz.isAgg145
 z127:=Tryz.sizeOf145
 v127:=Tryz.zeroValue145}
theorem Tryz.Builder_Extra_169:Builder.Extra Tryz.prog Tryz.lays169_ren:= {
 sizeBuilder:=Qdu
 liesBuilder:=Qdu
 t5:=Tryz.underlying5
 a5:=Tryz.isAgg5
 z5:=Tryz.sizeOf5
 v5:=Tryz.zeroValue5
 infoByte:=Qdu
 cellsByte:=Qdu
 sizeByte:=Qdu
 neB5:=by decide}
open Go.RowKit in
theorem Tryz.Builder_String_any (B b:Nat) (l:List UInt8) (w:World) (h:Lib.IsBuilder 92 5 B b (Lib.byteCells l) w) (hBw:B≤w.heap.size):
 Calls Tryz.prog 61 #[.pointer (some ⟨b,0,none⟩)] w fun e w'=>e=.returned (.string ⟨l.toArray⟩)∧Below B w w':=Any.Builder_String_any Tryz.lays169 Tryz.Builder_Extra_169 B b l w h hBw
def Tryz.lays156_ren:Go.Shelf.Ren:=⟨fun|156=>182|165=>178|166=>59|169=>61|240=>101|241=>240|276=>163|277=>267|n=>n,fun|31=>141|9=>9|3=>3|4=>4|0=>0|20=>20|72=>92|76=>95|70=>89|37=>90|75=>94|127=>145|164=>202|5=>5|80=>98|n=>n,fun|n=>n⟩
theorem Tryz.lays156:Go.Proofs.Lays.n156 Tryz.prog Tryz.lays156_ren:= {
 mixed:=Qdu
 f156:=Tryz.func182.trans (Znb some QhO)
 f165:=Tryz.func178.trans (Znb some QhO)
 f166:=Tryz.func59.trans (Znb some QhO)
 f169:=Tryz.func61.trans (Znb some QhO)
 f240:=Tryz.func101.trans (Znb some QhO)
 f241:=Tryz.func240.trans (Znb some QhO)
 f276:=Tryz.func163.trans (Znb some QhO)
 f277:=Tryz.func267.trans (Znb some QhO)
 t0:=Tryz.underlying0
 a0:=Tryz.isAgg0
 z0:=Tryz.sizeOf0
 v0:=Tryz.zeroValue0
 t3:=Tryz.underlying3
 a3:=Tryz.isAgg3
 z3:=Tryz.sizeOf3
 v3:=Tryz.zeroValue3
 t4:=Tryz.underlying4
 a4:=Tryz.isAgg4
 z4:=Tryz.sizeOf4
 v4:=Tryz.zeroValue4
 t9:=Tryz.underlying9
 a9:=Tryz.isAgg9
 z9:=Tryz.sizeOf9
 v9:=Tryz.zeroValue9
 t20:=Tryz.underlying20
 a20:=Tryz.isAgg20
 z20:=Tryz.sizeOf20
 v20:=Tryz.zeroValue20
 t31:=Tryz.underlying141
 a31:=Tryz.isAgg141
 z31:=Tryz.sizeOf141
 v31:=Tryz.zeroValue141
 t37:=Tryz.underlying90
 a37:=Tryz.isAgg90
 z37:=Tryz.sizeOf90
 v37:=Tryz.zeroValue90
 t70:=Tryz.underlying89
 a70:=Tryz.isAgg89
 z70:=Tryz.sizeOf89
 v70:=Tryz.zeroValue89
 t72:=Tryz.underlying92
 a72:=Tryz.isAgg92
 z72:=Tryz.sizeOf92
 v72:=Tryz.zeroValue92
 t75:=Tryz.underlying94
 a75:=Tryz.isAgg94
 z75:=Tryz.sizeOf94
 v75:=Tryz.zeroValue94
 t76:=Tryz.underlying95
 a76:=Tryz.isAgg95
 z76:=Tryz.sizeOf95
 v76:=Tryz.zeroValue95
 t127:=Tryz.underlying145
 a127:=Tryz.isAgg145
 z127:=Tryz.sizeOf145
 v127:=Tryz.zeroValue145
 t164:=Tryz.underlying202
 a164:=Tryz.isAgg202
 z164:=Tryz.sizeOf202
 v164:=Tryz.zeroValue202}
theorem Tryz.Builder_Extra_156:Builder.Extra Tryz.prog Tryz.lays156_ren:= {
 sizeBuilder:=Qdu
 liesBuilder:=Qdu
 t5:=Tryz.underlying5
 a5:=Tryz.isAgg5
 z5:=Tryz.sizeOf5
 v5:=Tryz.zeroValue5
 infoByte:=Qdu
 cellsByte:=Qdu
 sizeByte:=Qdu
 neB5:=by decide}
open Go.RowKit in
theorem Tryz.strings_Join (bk o c:Nat) (xs:List ByteArray) (sep:ByteArray) (w:World) (hcells:∀(j:Nat) x,xs[j]? =some x→w.cell? ⟨bk,o+j,none⟩=some (.string x)) (hbk:bk<w.heap.size) (hN:xs.length≤140737488355328) (hcap:xs.length≤c) (hlen:(Lib.join (xs.map (·.data.toList)) sep.data.toList).length≤140737488355328):
 Calls Tryz.prog 182 #[.slice (some ⟨bk,o,none⟩) xs.length c,.string sep] w fun e w'=>e=.returned (.string ⟨(Lib.join (xs.map (·.data.toList)) sep.data.toList).toArray⟩)∧Below w.heap.size w w':=Any.strings_Join Tryz.lays156 Tryz.Builder_Extra_156 bk o c xs sep w hcells hbk hN hcap hlen
def Tryz.lays137_ren:Go.Shelf.Ren:=⟨fun|137=>56|217=>96|266=>161|n=>n,fun|9=>9|5=>5|3=>3|n=>n,fun|n=>n⟩
theorem Tryz.lays137:Go.Proofs.Lays.n137 Tryz.prog Tryz.lays137_ren:= {
 mixed:=Qdu
 f137:=Tryz.func56.trans (Znb some QhO)
 f217:=Tryz.func96.trans (Znb some QhO)
 f266:=Tryz.func161.trans (Znb some QhO)
 t3:=Tryz.underlying3
 a3:=Tryz.isAgg3
 z3:=Tryz.sizeOf3
 v3:=Tryz.zeroValue3
 t5:=Tryz.underlying5
 a5:=Tryz.isAgg5
 z5:=Tryz.sizeOf5
 v5:=Tryz.zeroValue5
 t9:=Tryz.underlying9
 a9:=Tryz.isAgg9
 z9:=Tryz.sizeOf9
 v9:=Tryz.zeroValue9}
open Go.RowKit in
theorem Tryz.strings_IndexByte (s:ByteArray) (c:Int) (w:World):
 Calls Tryz.prog 56 #[.string s,.int .u8 c] w fun e w'=>e=.returned (.int .i64 (Lib.indexByte s.data.toList c.toNat.toUInt8))∧w'=w:=Any.strings_IndexByte Tryz.lays137 s c w
def Tryz.lays171_ren:Go.Shelf.Ren:=⟨fun|171=>341|243=>342|246=>343|283=>344|284=>345|285=>346|286=>347|129=>349|317=>348|318=>350|319=>351|320=>352|337=>353|338=>354|n=>n,fun|3=>3|9=>9|2=>2|4=>4|171=>374|0=>0|53=>263|37=>90|5=>5|173=>377|212=>380|51=>257|20=>20|213=>381|46=>206|232=>384|233=>385|n=>n,fun|17=>4|18=>5|19=>6|n=>n⟩
theorem Tryz.lays171:Go.Proofs.Lays.n171 Tryz.prog Tryz.lays171_ren:= {
 mixed:=Qdu
 f129:=Tryz.func349.trans (Znb some QhO)
 f171:=Tryz.func341.trans (Znb some QhO)
 f243:=Tryz.func342.trans (Znb some QhO)
 f246:=Tryz.func343.trans (Znb some QhO)
 f283:=Tryz.func344.trans (Znb some QhO)
 f284:=Tryz.func345.trans (Znb some QhO)
 f285:=Tryz.func346.trans (Znb some QhO)
 f286:=Tryz.func347.trans (Znb some QhO)
 f317:=Tryz.func348.trans (Znb some QhO)
 f318:=Tryz.func350.trans (Znb some QhO)
 f319:=Tryz.func351.trans (Znb some QhO)
 f320:=Tryz.func352.trans (Znb some QhO)
 f337:=Tryz.func353.trans (Znb some QhO)
 f338:=Tryz.func354.trans (Znb some QhO)
 t0:=Tryz.underlying0
 a0:=Tryz.isAgg0
 z0:=Tryz.sizeOf0
 v0:=Tryz.zeroValue0
 t2:=Tryz.underlying2
 a2:=Tryz.isAgg2
 z2:=Tryz.sizeOf2
 v2:=Tryz.zeroValue2
 t3:=Tryz.underlying3
 a3:=Tryz.isAgg3
 z3:=Tryz.sizeOf3
 v3:=Tryz.zeroValue3
 t4:=Tryz.underlying4
 a4:=Tryz.isAgg4
 z4:=Tryz.sizeOf4
 v4:=Tryz.zeroValue4
 t5:=Tryz.underlying5
 a5:=Tryz.isAgg5
 z5:=Tryz.sizeOf5
 v5:=Tryz.zeroValue5
 t9:=Tryz.underlying9
 a9:=Tryz.isAgg9
 z9:=Tryz.sizeOf9
 v9:=Tryz.zeroValue9
 t20:=Tryz.underlying20
 a20:=Tryz.isAgg20
 z20:=Tryz.sizeOf20
 v20:=Tryz.zeroValue20
 t37:=Tryz.underlying90
 a37:=Tryz.isAgg90
 z37:=Tryz.sizeOf90
 v37:=Tryz.zeroValue90
 t46:=Tryz.underlying206
 a46:=Tryz.isAgg206
 z46:=Tryz.sizeOf206
 v46:=Tryz.zeroValue206
 t51:=Tryz.underlying257
 a51:=Tryz.isAgg257
 z51:=Tryz.sizeOf257
 v51:=Tryz.zeroValue257
 t53:=Tryz.underlying263
 a53:=Tryz.isAgg263
 z53:=Tryz.sizeOf263
 v53:=Tryz.zeroValue263
 t171:=Tryz.underlying374
 a171:=Tryz.isAgg374
 z171:=Tryz.sizeOf374
 v171:=Tryz.zeroValue374
 t173:=Tryz.underlying377
 a173:=Tryz.isAgg377
 z173:=Tryz.sizeOf377
 v173:=Tryz.zeroValue377
 t212:=Tryz.underlying380
 a212:=Tryz.isAgg380
 z212:=Tryz.sizeOf380
 v212:=Tryz.zeroValue380
 t213:=Tryz.underlying381
 a213:=Tryz.isAgg381
 z213:=Tryz.sizeOf381
 t232:=Tryz.underlying384
 a232:=Tryz.isAgg384
 z232:=Tryz.sizeOf384
 v232:=Tryz.zeroValue384
 t233:=Tryz.underlying385
 a233:=Tryz.isAgg385
 z233:=Tryz.sizeOf385
 v233:=Tryz.zeroValue385
 g17:=Qdu
 g18:=Qdu
 g19:=by kernel_rfl}
open Go.RowKit Go.Sort Go.Lib in
theorem Tryz.strconv_Itoa_small (i:Nat) (hi:i<100) (w:World):
 Calls Tryz.prog 341 #[.int .i64 i] w fun e w'=>e=.returned (.string ⟨(Lib.decDigits i).toArray⟩)∧w'=w:=Any.strconv_Itoa_small Tryz.lays171 i hi w
def Tryz.lays99_ren:Go.Shelf.Ren:=⟨fun|99=>177|206=>159|n=>n,fun|9=>9|4=>4|3=>3|n=>n,fun|n=>n⟩
theorem Tryz.lays99:Go.Proofs.Lays.n99 Tryz.prog Tryz.lays99_ren:= {
 mixed:=Qdu
 f99:=Tryz.func177.trans (Znb some QhO)
 f206:=Tryz.func159.trans (Znb some QhO)
 t3:=Tryz.underlying3
 a3:=Tryz.isAgg3
 z3:=Tryz.sizeOf3
 v3:=Tryz.zeroValue3
 t4:=Tryz.underlying4
 a4:=Tryz.isAgg4
 z4:=Tryz.sizeOf4
 v4:=Tryz.zeroValue4
 t9:=Tryz.underlying9
 a9:=Tryz.isAgg9
 z9:=Tryz.sizeOf9
 v9:=Tryz.zeroValue9}
open Go.RowKit Go.Lib in
theorem Tryz.strings_HasPrefix (s p:ByteArray) (w:World):
 Calls Tryz.prog 177 #[.string s,.string p] w fun e w'=>e=.returned (.bool (Lib.hasPrefix s.data.toList p.data.toList))∧w'=w:=Any.strings_HasPrefix Tryz.lays99 s p w
def Tryz.lays100_ren:Go.Shelf.Ren:=⟨fun|100=>253|207=>273|n=>n,fun|9=>9|4=>4|3=>3|n=>n,fun|n=>n⟩
theorem Tryz.lays100:Go.Proofs.Lays.n100 Tryz.prog Tryz.lays100_ren:= {
 mixed:=Qdu
 f100:=Tryz.func253.trans (Znb some QhO)
 f207:=Tryz.func273.trans (Znb some QhO)
 t3:=Tryz.underlying3
 a3:=Tryz.isAgg3
 z3:=Tryz.sizeOf3
 v3:=Tryz.zeroValue3
 t4:=Tryz.underlying4
 a4:=Tryz.isAgg4
 z4:=Tryz.sizeOf4
 v4:=Tryz.zeroValue4
 t9:=Tryz.underlying9
 a9:=Tryz.isAgg9
 z9:=Tryz.sizeOf9
 v9:=Tryz.zeroValue9}
open Go.RowKit Go.Lib in
theorem Tryz.strings_HasSuffix (s p:ByteArray) (w:World) (hs:s.size≤9223372036854775807):
 Calls Tryz.prog 253 #[.string s,.string p] w fun e w'=>e=.returned (.bool (Lib.hasSuffix s.data.toList p.data.toList))∧w'=w:=Any.strings_HasSuffix Tryz.lays100 s p w hs
def Tryz.lays157_ren:Go.Shelf.Ren:=⟨fun|157=>93|229=>157|199=>158|261=>229|311=>264|312=>265|n=>n,fun|9=>9|31=>141|3=>3|5=>5|4=>4|119=>195|0=>0|40=>197|152=>254|21=>21|154=>256|51=>257|141=>259|196=>287|193=>284|198=>290|49=>288|194=>285|201=>293|226=>316|46=>206|227=>317|n=>n,fun|0=>0|6=>1|n=>n⟩
theorem Tryz.lays157:Go.Proofs.Lays.n157 Tryz.prog Tryz.lays157_ren:= {
 mixed:=Qdu
 f157:=Tryz.func93.trans (Znb some QhO)
 f199:=Tryz.func158.trans (Znb some QhO)
 f229:=Tryz.func157.trans (Znb some QhO)
 f261:=Tryz.func229.trans (Znb some QhO)
 f311:=Tryz.func264.trans (Znb some QhO)
 f312:=Tryz.func265.trans (Znb some QhO)
 t0:=Tryz.underlying0
 a0:=Tryz.isAgg0
 z0:=Tryz.sizeOf0
 v0:=Tryz.zeroValue0
 t3:=Tryz.underlying3
 a3:=Tryz.isAgg3
 z3:=Tryz.sizeOf3
 v3:=Tryz.zeroValue3
 t4:=Tryz.underlying4
 a4:=Tryz.isAgg4
 z4:=Tryz.sizeOf4
 v4:=Tryz.zeroValue4
 t5:=Tryz.underlying5
 a5:=Tryz.isAgg5
 z5:=Tryz.sizeOf5
 v5:=Tryz.zeroValue5
 t9:=Tryz.underlying9
 a9:=Tryz.isAgg9
 z9:=Tryz.sizeOf9
 v9:=Tryz.zeroValue9
 t21:=Tryz.underlying21
 a21:=Tryz.isAgg21
 z21:=Tryz.sizeOf21
 v21:=Tryz.zeroValue21
 t31:=Tryz.underlying141
 a31:=Tryz.isAgg141
 z31:=Tryz.sizeOf141
 v31:=Tryz.zeroValue141
 t40:=Tryz.underlying197
 a40:=Tryz.isAgg197
 z40:=Tryz.sizeOf197
 v40:=Tryz.zeroValue197
 t46:=Tryz.underlying206
 a46:=Tryz.isAgg206
 z46:=Tryz.sizeOf206
 v46:=Tryz.zeroValue206
 t49:=Tryz.underlying288
 a49:=Tryz.isAgg288
 z49:=Tryz.sizeOf288
 v49:=Tryz.zeroValue288
 t51:=Tryz.underlying257
 a51:=Tryz.isAgg257
 z51:=Tryz.sizeOf257
 v51:=Tryz.zeroValue257
 t119:=Tryz.underlying195
 a119:=Tryz.isAgg195
 z119:=Tryz.sizeOf195
 t141:=Tryz.underlying259
 a141:=Tryz.isAgg259
 z141:=Tryz.sizeOf259
 v141:=Tryz.zeroValue259
 t152:=Tryz.underlying254
 a152:=Tryz.isAgg254
 z152:=Tryz.sizeOf254
 v152:=Tryz.zeroValue254
 t154:=Tryz.underlying256
 a154:=Tryz.isAgg256
 z154:=Tryz.sizeOf256
 v154:=Tryz.zeroValue256
 t193:=Tryz.underlying284
 a193:=Tryz.isAgg284
 z193:=Tryz.sizeOf284
 v193:=Tryz.zeroValue284
 t194:=Tryz.underlying285
 a194:=Tryz.isAgg285
 z194:=Tryz.sizeOf285
 v194:=Tryz.zeroValue285
 t196:=Tryz.underlying287
 a196:=Tryz.isAgg287
 z196:=Tryz.sizeOf287
 v196:=Tryz.zeroValue287
 t198:=Tryz.underlying290
 a198:=Tryz.isAgg290
 z198:=Tryz.sizeOf290
 v198:=Tryz.zeroValue290
 t201:=Tryz.underlying293
 a201:=Tryz.isAgg293
 z201:=Tryz.sizeOf293
 v201:=Tryz.zeroValue293
 t226:=Tryz.underlying316
 a226:=Tryz.isAgg316
 z226:=Tryz.sizeOf316
 v226:=Tryz.zeroValue316
 t227:=Tryz.underlying317
 a227:=Tryz.isAgg317
 z227:=Tryz.sizeOf317
 v227:=Tryz.zeroValue317
 g0:=Qdu
 g6:=by kernel_rfl}
open Go.RowKit Go.Lib in
theorem Tryz.strings_Fields (s:ByteArray) (w:World) (hs:s.size<4294967281) (hascii:∀(j:Nat) b,s.data.toList[j]? =some b→b.toNat<128) (htab:Lib.TabIs Tryz.prog w "strings.asciiSpace" .u8 Lib.asciiSpaceTab):
 Calls Tryz.prog 93 #[.string s] w fun e w'=>
  e=.returned (.slice (some ⟨w.heap.size,0,none⟩) (Lib.fields s.data.toList).length (Lib.fields s.data.toList).length)∧w'=w.alloc (.cells ((Lib.fields s.data.toList).map fun l=>Value.string ⟨l.toArray⟩).toArray 9):=Any.strings_Fields Tryz.lays157 QhO QhO s w hs hascii htab
def Tryz.lays105_ren:Go.Shelf.Ren:=⟨fun|105=>109|212=>176|99=>177|165=>178|166=>59|170=>60|169=>61|263=>238|264=>239|206=>159|240=>101|241=>240|276=>163|277=>267|n=>n,fun|9=>9|3=>3|4=>4|20=>20|0=>0|46=>206|109=>207|5=>5|72=>92|76=>95|51=>257|146=>261|53=>263|148=>264|70=>89|37=>90|75=>94|127=>145|164=>202|80=>98|n=>n,fun|n=>n⟩
theorem Tryz.lays105:Go.Proofs.Lays.n105 Tryz.prog Tryz.lays105_ren:= {
 mixed:=Qdu
 f99:=Tryz.func177.trans (Znb some QhO)
 f105:=Tryz.func109.trans (Znb some QhO)
 f165:=Tryz.func178.trans (Znb some QhO)
 f166:=Tryz.func59.trans (Znb some QhO)
 f169:=Tryz.func61.trans (Znb some QhO)
 f170:=Tryz.func60.trans (Znb some QhO)
 f206:=Tryz.func159.trans (Znb some QhO)
 f212:=Tryz.func176.trans (Znb some QhO)
 f240:=Tryz.func101.trans (Znb some QhO)
 f241:=Tryz.func240.trans (Znb some QhO)
 f263:=Tryz.func238.trans (Znb some QhO)
 f264:=Tryz.func239.trans (Znb some QhO)
 f276:=Tryz.func163.trans (Znb some QhO)
 f277:=Tryz.func267.trans (Znb some QhO)
 t0:=Tryz.underlying0
 a0:=Tryz.isAgg0
 z0:=Tryz.sizeOf0
 v0:=Tryz.zeroValue0
 t3:=Tryz.underlying3
 a3:=Tryz.isAgg3
 z3:=Tryz.sizeOf3
 v3:=Tryz.zeroValue3
 t4:=Tryz.underlying4
 a4:=Tryz.isAgg4
 z4:=Tryz.sizeOf4
 v4:=Tryz.zeroValue4
 t5:=Tryz.underlying5
 a5:=Tryz.isAgg5
 z5:=Tryz.sizeOf5
 v5:=Tryz.zeroValue5
 t9:=Tryz.underlying9
 a9:=Tryz.isAgg9
 z9:=Tryz.sizeOf9
 v9:=Tryz.zeroValue9
 t20:=Tryz.underlying20
 a20:=Tryz.isAgg20
 z20:=Tryz.sizeOf20
 v20:=Tryz.zeroValue20
 t37:=Tryz.underlying90
 a37:=Tryz.isAgg90
 z37:=Tryz.sizeOf90
 v37:=Tryz.zeroValue90
 t46:=Tryz.underlying206
 a46:=Tryz.isAgg206
 z46:=Tryz.sizeOf206
 v46:=Tryz.zeroValue206
 t51:=Tryz.underlying257
 a51:=Tryz.isAgg257
 z51:=Tryz.sizeOf257
 v51:=Tryz.zeroValue257
 t53:=Tryz.underlying263
 a53:=Tryz.isAgg263
 z53:=Tryz.sizeOf263
 v53:=Tryz.zeroValue263
 t70:=Tryz.underlying89
 a70:=Tryz.isAgg89
 z70:=Tryz.sizeOf89
 v70:=Tryz.zeroValue89
 t72:=Tryz.underlying92
 a72:=Tryz.isAgg92
 z72:=Tryz.sizeOf92
 v72:=Tryz.zeroValue92
 t75:=Tryz.underlying94
 a75:=Tryz.isAgg94
 z75:=Tryz.sizeOf94
 v75:=Tryz.zeroValue94
 t76:=Tryz.underlying95
 a76:=Tryz.isAgg95
 z76:=Tryz.sizeOf95
 v76:=Tryz.zeroValue95
 t109:=Tryz.underlying207
 a109:=Tryz.isAgg207
 z109:=Tryz.sizeOf207
 v109:=Tryz.zeroValue207
 t127:=Tryz.underlying145
 a127:=Tryz.isAgg145
 z127:=Tryz.sizeOf145
 v127:=Tryz.zeroValue145
 t146:=Tryz.underlying261
 a146:=Tryz.isAgg261
 z146:=Tryz.sizeOf261
 v146:=Tryz.zeroValue261
 t148:=Tryz.underlying264
 a148:=Tryz.isAgg264
 z148:=Tryz.sizeOf264
 v148:=Tryz.zeroValue264
 t164:=Tryz.underlying202
 a164:=Tryz.isAgg202
 z164:=Tryz.sizeOf202
 v164:=Tryz.zeroValue202}
theorem Tryz.Builder_Extra_105:Builder.Extra Tryz.prog Tryz.lays105_ren:= {
 sizeBuilder:=Qdu
 liesBuilder:=Qdu
 t5:=Tryz.underlying5
 a5:=Tryz.isAgg5
 z5:=Tryz.sizeOf5
 v5:=Tryz.zeroValue5
 infoByte:=Qdu
 cellsByte:=Qdu
 sizeByte:=Qdu
 neB5:=by decide}
open Go.RowKit Go.Lib in
theorem Tryz.strings_Repeat (s:ByteArray) (c:Nat) (w:World) (hc:c≤9223372036854775807) (hlen:s.size*c≤140737488355328):
 Calls Tryz.prog 109 #[.string s,.int .i64 c] w fun e w'=>e=.returned (.string ⟨(Lib.repeatL s.data.toList c).toArray⟩)∧Below w.heap.size w w':=Any.strings_Repeat Tryz.lays105 Tryz.Builder_Extra_105 s c w hc hlen
def Tryz.lays108_ren:Go.Shelf.Ren:=⟨fun|108=>217|n=>n,fun|28=>43|3=>3|0=>0|4=>4|n=>n,fun|n=>n⟩
theorem Tryz.lays108:Go.Proofs.Lays.n108 Tryz.prog Tryz.lays108_ren:= {
 mixed:=Qdu
 f108:=Tryz.func217.trans (Znb some QhO)
 t0:=Tryz.underlying0
 a0:=Tryz.isAgg0
 z0:=Tryz.sizeOf0
 v0:=Tryz.zeroValue0
 t3:=Tryz.underlying3
 a3:=Tryz.isAgg3
 z3:=Tryz.sizeOf3
 v3:=Tryz.zeroValue3
 t4:=Tryz.underlying4
 a4:=Tryz.isAgg4
 z4:=Tryz.sizeOf4
 v4:=Tryz.zeroValue4
 t28:=Tryz.underlying43
 a28:=Tryz.isAgg43
 z28:=Tryz.sizeOf43
 v28:=Tryz.zeroValue43}
open Go.Lib in
theorem Tryz.slices_Index_int (b off n c:Nat) (zs:List Int) (x:Int) (w:World) (hz:n≤zs.length) (hbig:n≤9223372036854775807) (hc:∀j,j<zs.length→w.cell? ⟨b,off+j,none⟩=some (.int .i64 (zs.getD j 0))):
 Calls Tryz.prog 217 #[.slice (some ⟨b,off,none⟩) n c,.int .i64 x] w fun e w'=>e=.returned (.int .i64 (Lib.idxOf (zs.take n) x))∧w'=w:=Any.slices_Index_int Tryz.lays108 b off n c zs x w hz hbig hc
open Go.Lib in
theorem Tryz.slices_Index_int_empty (a:Option Addr) (c:Nat) (x:Int) (w:World):
 Calls Tryz.prog 217 #[.slice a 0 c,.int .i64 x] w fun e w'=>e=.returned (.int .i64 (Lib.idxOf [] x))∧w'=w:=Any.slices_Index_int_empty Tryz.lays108 a c x w
def Tryz.lays109_ren:Go.Shelf.Ren:=⟨fun|109=>252|n=>n,fun|31=>141|9=>9|3=>3|0=>0|4=>4|n=>n,fun|n=>n⟩
theorem Tryz.lays109:Go.Proofs.Lays.n109 Tryz.prog Tryz.lays109_ren:= {
 mixed:=Qdu
 f109:=Tryz.func252.trans (Znb some QhO)
 t0:=Tryz.underlying0
 a0:=Tryz.isAgg0
 z0:=Tryz.sizeOf0
 v0:=Tryz.zeroValue0
 t3:=Tryz.underlying3
 a3:=Tryz.isAgg3
 z3:=Tryz.sizeOf3
 v3:=Tryz.zeroValue3
 t4:=Tryz.underlying4
 a4:=Tryz.isAgg4
 z4:=Tryz.sizeOf4
 v4:=Tryz.zeroValue4
 t9:=Tryz.underlying9
 a9:=Tryz.isAgg9
 z9:=Tryz.sizeOf9
 v9:=Tryz.zeroValue9
 t31:=Tryz.underlying141
 a31:=Tryz.isAgg141
 z31:=Tryz.sizeOf141
 v31:=Tryz.zeroValue141}
open Go.Lib in
theorem Tryz.slices_Index_string (b off n c:Nat) (zs:List ByteArray) (x:ByteArray) (w:World) (hz:n≤zs.length) (hbig:n≤9223372036854775807) (hc:∀j,j<zs.length→w.cell? ⟨b,off+j,none⟩=some (.string (zs.getD j ByteArray.empty))):
 Calls Tryz.prog 252 #[.slice (some ⟨b,off,none⟩) n c,.string x] w fun e w'=>e=.returned (.int .i64 (Lib.idxOfS (zs.take n) x))∧w'=w:=Any.slices_Index_string Tryz.lays109 b off n c zs x w hz hbig hc
def Tryz.lays113_ren:Go.Shelf.Ren:=⟨fun|113=>107|n=>n,fun|28=>43|3=>3|4=>4|9=>9|20=>20|0=>0|n=>n,fun|n=>n⟩
theorem Tryz.lays113:Go.Proofs.Lays.n113 Tryz.prog Tryz.lays113_ren:= {
 mixed:=Qdu
 f113:=Tryz.func107.trans (Znb some QhO)
 t0:=Tryz.underlying0
 a0:=Tryz.isAgg0
 z0:=Tryz.sizeOf0
 v0:=Tryz.zeroValue0
 t3:=Tryz.underlying3
 a3:=Tryz.isAgg3
 z3:=Tryz.sizeOf3
 v3:=Tryz.zeroValue3
 t4:=Tryz.underlying4
 a4:=Tryz.isAgg4
 z4:=Tryz.sizeOf4
 v4:=Tryz.zeroValue4
 t9:=Tryz.underlying9
 a9:=Tryz.isAgg9
 z9:=Tryz.sizeOf9
 v9:=Tryz.zeroValue9
 t20:=Tryz.underlying20
 a20:=Tryz.isAgg20
 z20:=Tryz.sizeOf20
 v20:=Tryz.zeroValue20
 t28:=Tryz.underlying43
 a28:=Tryz.isAgg43
 z28:=Tryz.sizeOf43
 v28:=Tryz.zeroValue43}
open Go.Lib in
theorem Tryz.slices_Max_int (b off n c:Nat) (zs:List Int) (w:World) (hn:0<n) (hz:n≤zs.length) (hbig:n≤9223372036854775807) (hc:∀j,j<zs.length→w.cell? ⟨b,off+j,none⟩=some (.int .i64 (zs.getD j 0))):
 Calls Tryz.prog 107 #[.slice (some ⟨b,off,none⟩) n c] w fun e w'=>e=.returned (.int .i64 (Lib.maxOf (zs.take n)))∧w'=w:=Any.slices_Max_int Tryz.lays113 b off n c zs w hn hz hbig hc
def Tryz.lays114_ren:Go.Shelf.Ren:=⟨fun|114=>106|n=>n,fun|28=>43|3=>3|4=>4|9=>9|20=>20|0=>0|n=>n,fun|n=>n⟩
theorem Tryz.lays114:Go.Proofs.Lays.n114 Tryz.prog Tryz.lays114_ren:= {
 mixed:=Qdu
 f114:=Tryz.func106.trans (Znb some QhO)
 t0:=Tryz.underlying0
 a0:=Tryz.isAgg0
 z0:=Tryz.sizeOf0
 v0:=Tryz.zeroValue0
 t3:=Tryz.underlying3
 a3:=Tryz.isAgg3
 z3:=Tryz.sizeOf3
 v3:=Tryz.zeroValue3
 t4:=Tryz.underlying4
 a4:=Tryz.isAgg4
 z4:=Tryz.sizeOf4
 v4:=Tryz.zeroValue4
 t9:=Tryz.underlying9
 a9:=Tryz.isAgg9
 z9:=Tryz.sizeOf9
 v9:=Tryz.zeroValue9
 t20:=Tryz.underlying20
 a20:=Tryz.isAgg20
 z20:=Tryz.sizeOf20
 v20:=Tryz.zeroValue20
 t28:=Tryz.underlying43
 a28:=Tryz.isAgg43
 z28:=Tryz.sizeOf43
 v28:=Tryz.zeroValue43}
open Go.Lib in
theorem Tryz.slices_Min_int (b off n c:Nat) (zs:List Int) (w:World) (hn:0<n) (hz:n≤zs.length) (hbig:n≤9223372036854775807) (hc:∀j,j<zs.length→w.cell? ⟨b,off+j,none⟩=some (.int .i64 (zs.getD j 0))):
 Calls Tryz.prog 106 #[.slice (some ⟨b,off,none⟩) n c] w fun e w'=>e=.returned (.int .i64 (Lib.minOf (zs.take n)))∧w'=w:=Any.slices_Min_int Tryz.lays114 b off n c zs w hn hz hbig hc
end Go.Proofs
end
