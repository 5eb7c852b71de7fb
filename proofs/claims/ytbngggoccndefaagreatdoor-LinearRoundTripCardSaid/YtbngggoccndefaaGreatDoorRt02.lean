/-
  Laid.
-/
import Derived.Test.YtbngggoccndefaaGreatDoorRt01
set_option maxHeartbeats 8000000
set_option maxRecDepth 100000
set_option linter.all false
namespace Go.Proofs.YtbngggoccndefaaGreatDoor
open Go.Proofs.Tryz
section
namespace Tw
def c39:List UInt8:=[48,49,50,51,52,53,54,55,56,57,65,66,67,68,69,70,71,72,73,74,75,76,77,78,79,80,81,82,83,84,85,86,87,88,89,90,45,46,32,36,47,43,37,42]
def p39:List UInt8:=[110,110,110,119,119,110,119,110,110,119,110,110,119,110,110,110,110,119,110,110,119,119,110,110,110,110,119,119,110,119,119,110,110,110,110,110,110,110,110,119,119,110,110,110,119,119,110,110,119,119,110,110,110,110,110,110,119,119,119,110,110,110,110,110,110,110,119,110,110,119,110,119,119,110,110,119,110,110,119,110,110,110,110,119,119,110,110,119,110,110,119,110,110,110,110,119,110,110,119,110,110,119,110,110,119,110,110,119,119,110,119,110,110,119,110,110,110,110,110,110,110,119,119,110,110,119,119,110,110,110,119,119,110,110,110,110,110,119,110,119,119,110,110,110,110,110,110,110,110,119,119,110,119,119,110,110,110,110,119,119,110,110,110,110,119,110,110,119,119,110,110,110,110,110,110,119,119,119,110,110,119,110,110,110,110,110,110,119,119,110,110,119,110,110,110,110,119,119,119,110,119,110,110,110,110,119,110,110,110,110,110,119,110,110,119,119,119,110,110,110,119,110,110,119,110,110,110,119,110,119,110,110,119,110,110,110,110,110,110,110,119,119,119,119,110,110,110,110,110,119,119,110,110,110,119,110,110,110,119,119,110,110,110,110,110,119,110,119,119,110,119,119,110,110,110,110,110,110,119,110,119,119,110,110,110,110,110,119,119,119,119,110,110,110,110,110,110,110,119,110,110,119,110,110,110,119,119,119,110,110,119,110,110,110,110,110,119,119,110,119,110,110,110,110,110,119,110,110,110,110,119,110,119,119,119,110,110,110,110,119,110,110,110,119,119,110,110,110,119,110,110,110,119,110,119,110,119,110,110,110,110,119,110,119,110,110,110,119,110,110,119,110,110,110,119,110,119,110,110,110,110,119,110,119,110,119,110,110,119,110,110,119,110,119,110,110]
def cCb:List UInt8:=[48,49,50,51,52,53,54,55,56,57,45,36,58,47,46,43,65,66,67,68]
def pCb:List UInt8:=[110,110,110,110,110,119,119,110,110,110,110,119,119,110,110,110,110,119,110,110,119,119,119,110,110,110,110,110,110,110,119,110,110,119,110,119,110,110,110,110,119,110,110,119,110,110,110,110,119,110,119,110,110,119,110,110,110,119,119,110,110,110,110,119,110,110,119,110,110,110,110,110,110,119,119,110,110,110,110,119,119,110,110,110,119,110,110,110,119,110,119,119,110,119,110,110,110,119,119,110,119,110,119,110,110,110,110,119,110,119,110,119,110,110,119,119,110,119,110,110,119,110,119,110,110,119,110,110,110,119,110,119,119,110,110,110,119,119,119,110]
def dCb:List UInt8:=[48,49,50,51,52,53,54,55,56,57,45,36,58,47,46,43]
def eCb:List UInt8:=[65,66,67,68]
def cItf:List UInt8:=[48,49,50,51,52,53,54,55,56,57]
def pItf:List UInt8:=[110,110,119,119,110,119,110,110,110,119,110,119,110,110,119,119,119,110,110,110,110,110,119,110,119,119,110,119,110,110,110,119,119,110,110,110,110,110,119,119,119,110,110,119,110,110,119,110,119,110]
def rdAt (cs ps:List UInt8) (z:Nat) (e:List UInt8) (i:Nat):UInt8×Bool:=chr cs ps z ((e.drop (i*(z+1))).take z)
def isIn (set:List UInt8) (r:UInt8×Bool):Bool:=r.2&&decide (0<=Lib.indexByte set r.1)
def rdErr (cs ps edge inner:List UInt8) (z:Nat) (e:List UInt8) (n i:Nat):Int:=
 if 0<i∧e.getD (i*(z+1)-1) 0=119 then 18
 else if i=0∧isIn edge (rdAt cs ps z e i)=false then 19
 else if i+1=n∧isIn edge (rdAt cs ps z e i)=false then 20
 else if 0<i∧i+1<n∧isIn inner (rdAt cs ps z e i)=false then 18
 else 0
def read (cs ps edge inner:List UInt8) (z:Nat) (e:List UInt8):List UInt8×Int:=
 match(List.range ((e.length+1)/(z+1))).find? (fun i=>rdErr cs ps edge inner z e ((e.length+1)/(z+1)) i !=0)with
 |some i=>([],rdErr cs ps edge inner z e ((e.length+1)/(z+1)) i)
 |none=>((List.range ((e.length+1)/(z+1))).map fun i=>(rdAt cs ps z e i).1,0)
theorem read_at (cs ps edge inner:List UInt8) (z:Nat) (e:List UInt8) (n j:Nat) (hn:n=(e.length+1)/(z+1)) (hj:j<n) (h:rdErr cs ps edge inner z e n j≠0) (hb:∀i,i<j->rdErr cs ps edge inner z e n i=0):
 read cs ps edge inner z e=([],rdErr cs ps edge inner z e n j):=by
 have:(List.range n).find? (fun i=>rdErr cs ps edge inner z e n i !=0)=some j:=EF
 unfold read;rw[<-hn,this]
theorem read_all (cs ps edge inner:List UInt8) (z:Nat) (e:List UInt8) (n:Nat) (hn:n=(e.length+1)/(z+1)) (hb:∀i,i<n->rdErr cs ps edge inner z e n i=0):
 read cs ps edge inner z e=((List.range n).map fun i=>(rdAt cs ps z e i).1,0):=by
 have:(List.range n).find? (fun i=>rdErr cs ps edge inner z e n i !=0)=none:=EG
 unfold read;rw[<-hn,this]
def sumCb (l:List UInt8):Int:=(l.map (Lib.indexByte cCb)).foldl (·+·) 0
def compCb (l:List UInt8) (check:Bool):List UInt8×Int:=
 if l.length<2 then([],7)
 else if only (l.take 1) eCb=false then([],19)
 else if only (l.drop (l.length-1)) eCb=false then([],20)
 else if only ((l.drop 1).take (l.length-2)) dCb=false then([],6)
 else if check=false then(l,0)
 else(l.take (l.length-1)++[dCb.getD ((16-sumCb l%16)%16).toNat 0]++l.drop (l.length-1),0)
def textCb (l:List UInt8) (check:Bool):List UInt8:=if check then l.take (l.length-2)++l.drop (l.length-1)else l
def countsItf (n:Nat):Bool:=decide (17<=n)&&decide ((n-7)%10=0)&&decide ((n-7)/10<=500)
def compItf (l:List UInt8) (check:Bool):List UInt8×Int:=
 if only l cItf=false then([],6)
 else if check=false then(if l.length%2=0 then(l,0)else([],7))
 else if(Cd.compI 1 l).2=0 then(if(l++(Cd.compI 1 l).1).length%2=0 then(l++(Cd.compI 1 l).1,0)else([],7))else([],(Cd.compI 1 l).2)
def mix:List UInt8->List UInt8->List UInt8
 |a::l,b::m=>a::b::mix l m
 |_,_=>[]
def drawPairs:List UInt8->List UInt8
 |a::b::l=>mix (pat cItf pItf 5 a).1 (pat cItf pItf 5 b).1++drawPairs l
 |_=>[]
def drawItf (l:List UInt8):List UInt8:=[110,110,110,110]++drawPairs l++[119,110,110]
def evens:List UInt8->List UInt8
 |a::_::l=>a::evens l
 |_=>[]
def odds:List UInt8->List UInt8
 |_::b::l=>b::odds l
 |_=>[]
def pairAt (e:List UInt8) (i:Nat):List UInt8:=(e.drop (4+10*i)).take 10
def digA (e:List UInt8) (i:Nat):UInt8×Bool:=chr cItf pItf 5 (evens (pairAt e i))
def digB (e:List UInt8) (i:Nat):UInt8×Bool:=chr cItf pItf 5 (odds (pairAt e i))
def pairOk (e:List UInt8) (i:Nat):Bool:=(digA e i).2&&(digB e i).2
def readItf (e:List UInt8):List UInt8×Int:=
 if e.take 4≠ [110,110,110,110]then([],19)
 else if(List.range ((e.length-7)/10)).all (pairOk e)=false then([],18)
 else if e.drop (e.length-3)≠ [119,110,110]then([],20)
 else((List.range ((e.length-7)/10)).flatMap fun i=>[(digA e i).1,(digB e i).1],0)
def textItf (l:List UInt8) (check:Bool):List UInt8:=if check then l.take (l.length-1)else l
def patK (k:Nat) (c:UInt8):List UInt8×Bool:=match k with
 |0=>pat c39 p39 9 c
 |1=>pat cCb pCb 7 c
 |_=>pat cItf pItf 5 c
def countsK (k:Nat) (n:Nat) (check:Bool):Bool:=match k with
 |0=>counts 9 1 1000 n check
 |1=>counts 7 0 998 n check
 |_=>countsItf n
def compK (k:Nat) (l:List UInt8) (check:Bool):List UInt8×Int:=match k with
 |0=>comp39 l check
 |1=>compCb l check
 |_=>compItf l check
def drawK (k:Nat) (l:List UInt8):List UInt8:=match k with
 |0=>Lib.join (l.map fun c=>(pat c39 p39 9 c).1) [110]
 |1=>Lib.join (l.map fun c=>(pat cCb pCb 7 c).1) [110]
 |_=>drawItf l
def readK (k:Nat) (e:List UInt8):List UInt8×Int:=match k with
 |0=>read c39 p39 [42] Cd.syms 9 e
 |1=>read cCb pCb eCb dCb 7 e
 |_=>readItf e
def textK (k:Nat) (l:List UInt8) (check:Bool):List UInt8:=match k with
 |0=>text39 l check
 |1=>textCb l check
 |_=>textItf l check
def widths (r:Int) (e:List UInt8):List Int:=e.map fun c=>if c=119 then r else 1
def encK (k:Nat) (l:List UInt8) (r:Int) (check:Bool):List Int×Int:=
 if r≠2∧r≠3 then([],1)
 else if l=[]then([],5)
 else if 1000<l.length then([],4)
 else if(compK k l check).2≠0 then([],(compK k l check).2)
 else(widths r (drawK k (compK k l check).1),0)
def enc (kind:Int) (l:List UInt8) (r:Int) (check:Bool):List Int×Int:=
 if kind=5 then encK 0 l r check else if kind=6 then encK 1 l r check else if kind=7 then encK 2 l r check else([],1)
def inRng (ws:List Int):Bool:=ws.all fun x=>decide (1<=x)&&decide (x<=65536)
def lo (ws:List Int):Int:=ws.foldl min (ws.getD 0 0)
def hi (ws:List Int):Int:=ws.foldl max (ws.getD 0 0)
def isWide (ws:List Int) (x:Int):Bool:=decide (lo ws+hi ws<2*x)
def leastWide (ws:List Int) (l:List Int):Int:=l.foldl (fun a x=>if isWide ws x then min a x else a) (hi ws)
def mostNarrow (ws:List Int) (l:List Int):Int:=l.foldl (fun a x=>if isWide ws x then a else max a x) (lo ws)
def wide (ws:List Int):List Bool×Int:=
 if ws=[]then([],5)
 else if inRng ws=false then([],3)
 else if 2*hi ws<3*lo ws then(ws.map fun _=>false,0)
 else if 2*leastWide ws ws<3*mostNarrow ws ws then([],18)
 else(ws.map (isWide ws),0)
def elems (l:List Bool):List UInt8:=l.map fun b=>if b then 119 else 110
def decK (k:Nat) (ws:List Int) (check:Bool):List UInt8×Int:=
 if countsK k ws.length check=false then([],7)
 else if(wide ws).2≠0 then([],(wide ws).2)
 else if(readK k (elems (wide ws).1)).2≠0 then([],(readK k (elems (wide ws).1)).2)
 else if check=true∧compK k (textK k (readK k (elems (wide ws).1)).1 check) true≠((readK k (elems (wide ws).1)).1,0)then([],8)
 else(textK k (readK k (elems (wide ws).1)).1 check,0)
def dec (kind:Int) (ws:List Int) (check:Bool):List UInt8×Int:=
 if kind=5 then decK 0 ws check else if kind=6 then decK 1 ws check else if kind=7 then decK 2 ws check else([],1)
def rep (c:UInt8):List UInt8:=
 if c=0 then [37,85]
 else if c<=26 then [36,64+c]
 else if c<=31 then [37,38+c]
 else if 33<=c∧c<=44 then [47,32+c]
 else if c=47 then [47,79]
 else if c=58 then [47,90]
 else if 59<=c∧c<=63 then [37,11+c]
 else if c=64 then [37,86]
 else if 91<=c∧c<=95 then [37,c-16]
 else if c=96 then [37,87]
 else if 97<=c∧c<=122 then [43,c-32]
 else if 123<=c∧c<=126 then [37,c-43]
 else if c=127 then [37,84]
 else [c]
end Tw
namespace Rn
def runsGo:Bool->Nat->List Bool->List Nat
 |_,n,[]=>[n]
 |c,n,b::r=>if b=c then runsGo c (n+1) r else n::runsGo b 1 r
def core (s:List Bool):List Bool:=(s.drop (Ea.ldg s)).take (s.length-Ea.trl s-Ea.ldg s)
def widthsN (s:List Bool):List Nat:=match core s with
 | []=>[]
 |b::r=>runsGo b 1 r
def widths (s:List Bool):List Int:=(widthsN s).map fun(n:Nat)=>(n:Int)
def mods:Bool->List Int->List Bool
 |_,[]=>[]
 |b,x::r=>List.replicate x.toNat b++mods (!b) r
def sum (ws:List Int):Int:=ws.foldl (·+·) 0
def modules (ws:List Int):List Bool×Int:=
 if ws.length=0 then([],5)else if ws.length%2=0 then([],7)else if Tw.inRng ws=false then([],3)else if 65536<sum ws then([],4)else(mods true ws,0)
def gcdGo:Nat->List Int->Int
 |g,[]=>(g:Int)
 |g,x::r=>if x<1 then 0 else gcdGo (Nat.gcd g x.toNat) r
def unit (ws:List Int):Int:=gcdGo 0 ws
def need (s t:Int) (m w:Int):Int:=s*m-t*w
def leastGo (s t:Int):Nat->Nat->Int->List Int->List Int->Nat
 |_,b,_,[],_=>b
 |_,b,_,_,[]=>b
 |i,b,v,m::ms,w::ws=>if need s t m w<v then leastGo s t (i+1) i (need s t m w) ms ws else leastGo s t (i+1) b v ms ws
def least (s t:Int) (ms ws:List Int):Nat:=leastGo s t 1 0 (need s t (ms.getD 0 0) (ws.getD 0 0)) (ms.drop 1) (ws.drop 1)
def give (s t:Int) (ws:List Int):Nat->List Int->List Int
 |0,ms=>ms
 |n+1,ms=>give s t ws n (ms.set (least s t ms ws) (ms.getD (least s t ms ws) 0+1))
def quant (ws:List Int) (t:Int):List Int×Int:=
 if ws.length=0 then([],5)else if 65536<ws.length then([],4)else if Tw.inRng ws=false∨t<ws.length∨65536<t then([],3)
 else(give (sum ws) t ws (t.toNat-ws.length) (List.replicate ws.length 1),0)
theorem runsGo_app (c:Bool):∀(n:Nat) (k:Nat) (r:List Bool),runsGo c n (List.replicate k c++r)=runsGo c (n+k) r
 |n,0,r=>rfl
 |n,k+1,r=>by rw[D4,P2,runsGo,G0 rfl,runsGo_app c (n+1) k r];congr 1;omega
theorem leastGo_at (s t:Int):∀(ms ws:List Int) (i b:Nat) (v:Int),ms.length=ws.length->
 (leastGo s t i b v ms ws=b∧(∀(k:Nat) (m w:Int),ms[k]? =some m->ws[k]? =some w->v<=need s t m w))∨
 (∃(k:Nat) (m w:Int),leastGo s t i b v ms ws=i+k∧ms[k]? =some m∧ws[k]? =some w∧need s t m w<v∧(∀(j:Nat) (m' w':Int),ms[j]? =some m'->ws[j]? =some w'->need s t m w<=need s t m' w')∧∀(j:Nat) (m' w':Int),j<k->ms[j]? =some m'->ws[j]? =some w'->need s t m w<need s t m' w')
 | [],ws,i,b,v,h=>.inl ⟨rfl,fun k m w hm=>by simp at hm⟩
 |m::ms,[],i,b,v,h=>by cases h
 |m::ms,w::ws,i,b,v,h=>by
  have hl:ms.length=ws.length:=A6;rw[leastGo];by_cases hc:need s t m w<v
  ·rw[G0 hc];right;rcases leastGo_at s t ms ws (i+1) i (need s t m w) hl with⟨h1,h2⟩|⟨k,m',w',h1,h2,h3,h4,h5,h6⟩
   ·refine⟨0,m,w,by rw[h1];rfl,rfl,rfl,hc,?_,fun j _ _ hj=>by omega⟩
    intro j m' w' hm hw
    cases j with
    |zero=>simp at hm hw;subst hm hw;exact Int.le_refl _
    |succ j=>exact h2 j m' w' Y7 P8
   ·refine⟨k+1,m',w',by rw[h1];omega,by simpa using h2,by simpa using h3,by omega,?_,?_⟩
    ·intro j a c hm hw
     cases j with
     |zero=>simp at hm hw;subst hm hw;omega
     |succ j=>exact h5 j a c Y7 P8
    ·intro j a c hj hm hw
     cases j with
     |zero=>simp at hm hw;subst hm hw;exact h4
     |succ j=>exact h6 j a c C0 Y7 P8
  ·rw[D0 hc];rcases leastGo_at s t ms ws (i+1) b v hl with⟨h1,h2⟩|⟨k,m',w',h1,h2,h3,h4,h5,h6⟩
   ·left
    refine⟨h1,fun j a c hm hw=> ?_⟩
    cases j with
    |zero=>simp at hm hw;subst hm hw;omega
    |succ j=>exact h2 j a c Y7 P8
   ·right;refine⟨k+1,m',w',by rw[h1];omega,by simpa using h2,by simpa using h3,h4,?_,?_⟩
    ·intro j a c hm hw
     cases j with
     |zero=>simp at hm hw;subst hm hw;omega
     |succ j=>exact h5 j a c Y7 P8
    ·intro j a c hj hm hw
     cases j with
     |zero=>simp at hm hw;subst hm hw;omega
     |succ j=>exact h6 j a c C0 Y7 P8
theorem least_is {s t:Int} {ms ws:List Int} (hl:ms.length=ws.length) {k:Nat} {m w:Int} (hm:ms[k]? =some m) (hw:ws[k]? =some w)
 (h1:∀(j:Nat) (m' w':Int),ms[j]? =some m'->ws[j]? =some w'->need s t m w<=need s t m' w') (h2:∀(j:Nat) (m' w':Int),j<k->ms[j]? =some m'->ws[j]? =some w'->need s t m w<need s t m' w'):least s t ms ws=k:=by
 cases ms with
 |nil=>simp at hm
 |cons m0 ms=>
  cases ws with
  |nil=>cases hl
  |cons w0 ws=>
   have hl':ms.length=ws.length:=(by simpa using hl);unfold least;simp only[TZ,U9,I4];rcases leastGo_at s t ms ws 1 0 (need s t m0 w0) hl' with⟨h3,h4⟩|⟨j,m',w',h3,h4,h5,h6,h7,h8⟩
   ·rw[h3]
    cases k with
    |zero=>rfl
    |succ k=>have a:=h2 0 m0 w0 C0 rfl rfl;have b:=h4 k m w Y7 P8;omega
   ·rw[h3]
    cases k with
    |zero=>simp at hm hw;subst hm hw;have:=h1 (j+1) m' w' VE (by simpa using h5);omega
    |succ k=>have hm':ms[k]? =some m:=Y7;have hw':ws[k]? =some w:=P8;rcases Nat.lt_trichotomy j k with hjk|hjk|hjk;(·have a:=h2 (j+1) m' w' C0 VE (by simpa using h5);have b:=h7 k m w hm' hw';omega);(·omega);·have a:=h8 k m w hjk hm' hw';have b:=h1 (j+1) m' w' VE (by simpa using h5);omega
end Rn
namespace Cc
def pats:List (List Int):=[[2,1,2,2,2,2],[2,2,2,1,2,2],[2,2,2,2,2,1],[1,2,1,2,2,3],[1,2,1,3,2,2],[1,3,1,2,2,2],[1,2,2,2,1,3],[1,2,2,3,1,2],[1,3,2,2,1,2],[2,2,1,2,1,3],[2,2,1,3,1,2],[2,3,1,2,1,2],[1,1,2,2,3,2],[1,2,2,1,3,2],[1,2,2,2,3,1],[1,1,3,2,2,2],[1,2,3,1,2,2],[1,2,3,2,2,1],[2,2,3,2,1,1],[2,2,1,1,3,2],[2,2,1,2,3,1],[2,1,3,2,1,2],[2,2,3,1,1,2],[3,1,2,1,3,1],[3,1,1,2,2,2],[3,2,1,1,2,2],[3,2,1,2,2,1],[3,1,2,2,1,2],[3,2,2,1,1,2],[3,2,2,2,1,1],[2,1,2,1,2,3],[2,1,2,3,2,1],[2,3,2,1,2,1],[1,1,1,3,2,3],[1,3,1,1,2,3],[1,3,1,3,2,1],[1,1,2,3,1,3],[1,3,2,1,1,3],[1,3,2,3,1,1],[2,1,1,3,1,3],[2,3,1,1,1,3],[2,3,1,3,1,1],[1,1,2,1,3,3],[1,1,2,3,3,1],[1,3,2,1,3,1],[1,1,3,1,2,3],[1,1,3,3,2,1],[1,3,3,1,2,1],[3,1,3,1,2,1],[2,1,1,3,3,1],[2,3,1,1,3,1],[2,1,3,1,1,3],[2,1,3,3,1,1],[2,1,3,1,3,1],[3,1,1,1,2,3],[3,1,1,3,2,1],[3,3,1,1,2,1],[3,1,2,1,1,3],[3,1,2,3,1,1],[3,3,2,1,1,1],[3,1,4,1,1,1],[2,2,1,4,1,1],[4,3,1,1,1,1],[1,1,1,2,2,4],[1,1,1,4,2,2],[1,2,1,1,2,4],[1,2,1,4,2,1],[1,4,1,1,2,2],[1,4,1,2,2,1],[1,1,2,2,1,4],[1,1,2,4,1,2],[1,2,2,1,1,4],[1,2,2,4,1,1],[1,4,2,1,1,2],[1,4,2,2,1,1],[2,4,1,2,1,1],[2,2,1,1,1,4],[4,1,3,1,1,1],[2,4,1,1,1,2],[1,3,4,1,1,1],[1,1,1,2,4,2],[1,2,1,1,4,2],[1,2,1,2,4,1],[1,1,4,2,1,2],[1,2,4,1,1,2],[1,2,4,2,1,1],[4,1,1,2,1,2],[4,2,1,1,1,2],[4,2,1,2,1,1],[2,1,2,1,4,1],[2,1,4,1,2,1],[4,1,2,1,2,1],[1,1,1,1,4,3],[1,1,1,3,4,1],[1,3,1,1,4,1],[1,1,4,1,1,3],[1,1,4,3,1,1],[4,1,1,1,1,3],[4,1,1,3,1,1],[1,1,3,1,4,1],[1,1,4,1,3,1],[3,1,1,1,4,1],[4,1,1,1,3,1],[2,1,1,4,1,2],[2,1,1,2,1,4],[2,1,1,2,3,2]]
def stopP:List Int:=[2,3,3,1,1,1,2]
def valOf (w:List Int):Option Nat:=pats.findIdx? fun p=>p==w
def valsGo:Nat->List Int->Option (List Int)
 |0,_=>some []
 |n+1,w=>match valOf (w.take 6)with
  |none=>none
  |some v=>(valsGo n (w.drop 6)).map fun l=>(v:Int)::l
def chOf (v:Int) (set:Nat):Int:=if set=0∧64<=v then v-64 else v+32
def stepC (set:Nat) (sh:Bool) (v:Int):Option (Nat×Bool×List Int):=
 if sh then(if 95<v then none else some (set,false,[chOf v (1-set)]))
 else if 102<v then none
 else if v=102 then some (set,false,[256])
 else if set=2∧v<=99 then some (set,false,[48+v/10,48+v%10])
 else if v<=95 then some (set,false,[chOf v set])
 else if v=96 then some (set,false,[258])
 else if v=97 then some (set,false,[257])
 else if v=98 then some (set,true,[])
 else if v=99 then some (2,false,[])
 else if v=100∧set≠1 then some (1,false,[])
 else if v=101∧set≠0 then some (0,false,[])
 else some (set,false,[259])
def runC:Nat->Bool->List Int->List Int->Option (List Int)
 |_,sh,out,[]=>if sh then none else some out
 |set,sh,out,v::r=>match stepC set sh v with
  |none=>none
  |some (s',h',o)=>runC s' h' (out++o) r
def chkGo:Nat->Int->List Int->Int
 |_,s,[]=>s
 |i,s,v::r=>chkGo (i+1) ((s+(i:Int)*v)%103) r
def chk (vs:List Int):Int:=chkGo 0 (vs.getD 0 0) vs
def chars (vs:List Int):List Int×Int:=
 if vs.any (fun v=>decide (v<0) || decide (106<v))then([],3)
 else if vs.length<3 then([],7)
 else if vs.getD 0 0<103∨105<vs.getD 0 0 then([],19)
 else if vs.getD (vs.length-1) 0≠106 then([],20)
 else if vs.getD (vs.length-2) 0≠chk (vs.take (vs.length-2))then([],8)
 else match runC (vs.getD 0 0-103).toNat false [] ((vs.take (vs.length-2)).drop 1)with
  |none=>([],22)
  |some o=>(o,0)
def dec (row:List Bool):List Int×Int:=
 if Rn.core row=[]then([],5)
 else if Ea.ldg row<10∨Ea.trl row<10 then([],9)
 else if(Rn.widths row).length<19∨((Rn.widths row).length-7)%6≠0 then([],7)
 else if(Rn.widths row).drop ((Rn.widths row).length-7)≠stopP then([],20)
 else match valsGo (((Rn.widths row).length-7)/6) (Rn.widths row)with
  |none=>([],18)
  |some vs=>chars (vs++[106])
end Cc
namespace Cs
def valOf (c:Int) (st:Nat):Option Int:=
 if st=2∧c<32 then some (c+64)else if(st=2∧c<=95)∨(st=3∧32<=c∧c<128)then some (c-32)else none
def fnOf (c:Int) (st:Nat):Option Int:=
 if c=256 then some 102 else if st=4 then none else if c=257 then some 97 else if c=258 then some 96 else if st=2 then some 101 else some 100
def own (c:Int) (st:Nat):Option Int:=if 256<=c then fnOf c st else valOf c st
def dig (c:Int):Bool:=decide (48<=c)&&decide (c<=57)
abbrev Nd:=Nat×Nat
abbrev Mv:=Int×Nd
def one (v:Option Int) (nd:Nd):List Mv:=match v with
 |none=>[]
 |some x=>[(x,nd)]
def pairV (a b:Int):Option Int:=if dig a&&dig b then some (10*(a-48)+b-48)else none
def pairAt (cs:List Int) (i:Nat):Option Int:=if i+1<cs.length then pairV (cs.getD i 0) (cs.getD (i+1) 0)else none
def moves (cs:List Int) (i st:Nat):List Mv:=
 if st=0 then one (valOf (cs.getD i 0) 2) (i+1,3)
 else if st=1 then one (valOf (cs.getD i 0) 3) (i+1,2)
 else(if st=2 then [(98,i,1),(99,i,4),(100,i,3)]else if st=3 then [(98,i,0),(99,i,4),(101,i,2)]else [(100,i,3),(101,i,2)]++one (pairAt cs i) (i+2,4))++one (own (cs.getD i 0) st) (i+1,st)
abbrev Tab:=Nd->Option Nat
def better (o:Option Nat) (r:Nat):Bool:=match o with
 |none=>true
 |some b=>decide (r<b)
def relax (fr:Nd) (T:Tab) (m:Mv):Tab:=match T m.2 with
 |none=>T
 |some r=>if better (T fr) (r+1)then fun x=>if x=fr then some (r+1)else T x else T
def node (cs:List Int) (i:Nat) (T:Tab) (st:Nat):Tab:=(moves cs i st).foldl (relax (i,st)) T
def round (cs:List Int) (i:Nat) (T:Tab):Tab:=[0,1,2,3,4].foldl (node cs i) T
def tab0 (n:Nat):Tab:=fun x=>if x.1=n∧2<=x.2∧x.2<=4 then some 0 else none
def tabs (cs:List Int):Nat->Tab
 |0=>tab0 cs.length
 |k+1=>round cs (cs.length-1-k) (round cs (cs.length-1-k) (tabs cs k))
def table (cs:List Int):Tab:=tabs cs cs.length
def takes (T:Tab) (fr:Nd) (b:Option Mv) (m:Mv):Bool:=match T m.2 with
 |none=>false
 |some r=>decide (r+1=(T fr).getD 0)&&(match b with
  |none=>true
  |some x=>decide (m.1<x.1))
def pick (T:Tab) (fr:Nd) (l:List Mv):Option Mv:=l.foldl (fun b m=>if takes T fr b m then some m else b) none
def path (cs:List Int) (T:Tab):Nat->Nd->List Int
 |0,_=>[]
 |k+1,fr=>if fr.1<cs.length then match pick T fr (moves cs fr.1 fr.2)with
  |none=>[]
  |some m=>m.1::path cs T k m.2
  else []
def startOf (T:Tab):Nat:=
 let a:=if(T (0,3)).getD 0<(T (0,2)).getD 0 then 3 else 2
 if(T (0,4)).getD 0<(T (0,a)).getD 0 then 4 else a
def body (cs:List Int):List Int:=((startOf (table cs):Int)+101)::path cs (table cs) ((table cs (0,startOf (table cs))).getD 0) (0,startOf (table cs))
def values (cs:List Int):List Int:=body cs++[Cc.chk (body cs),106]
def omin:Option Nat->Option Nat->Option Nat
 |none,b=>b
 |some a,none=>some a
 |some a,some b=>some (min a b)
def inc (o:Option Nat):Option Nat:=o.map (·+1)
theorem relax_at (fr:Nd) (T:Tab) (m:Mv):relax fr T m fr=omin (T fr) (inc (T m.2)):=by
 unfold relax
 cases h:T m.2 with
 |none=>cases h2:T fr<;>simp[h2,omin,inc]
 |some r=>
  dsimp only
  cases h2:T fr with
  |none=>simp[better,omin,inc]
  |some b=>by_cases h3:r+1<b;(·simp[better,omin,inc,h3];omega);·simp[better,omin,inc,h3,h2];omega
theorem relax_ne {fr x:Nd} (T:Tab) (m:Mv) (h:x≠fr):relax fr T m x=T x:=by
 unfold relax
 cases T m.2 with
 |none=>rfl
 |some r=>dsimp only;split;(·exact D0 h);·rfl
theorem fold_ne {fr x:Nd} (h:x≠fr):∀(l:List Mv) (T:Tab),l.foldl (relax fr) T x=T x
 | [],T=>rfl
 |m::l,T=>by rw[I3,fold_ne h l,relax_ne T m h]
theorem fold_at (fr:Nd):∀(l:List Mv) (T:Tab),(∀m∈l,m.2≠fr)->l.foldl (relax fr) T fr=l.foldl (fun a m=>omin a (inc (T m.2))) (T fr)
 | [],T,_=>rfl
 |m::l,T,h=>by
  rw[I3,I3,fold_at fr l _ fun x hx=>h x (C1 _ hx),relax_at];have key:∀(l':List Mv) (a:Option Nat),(∀x∈l',x.2≠fr)->l'.foldl (fun a m'=>omin a (inc (relax fr T m m'.2))) a=l'.foldl (fun a m'=>omin a (inc (T m'.2))) a:=by
   intro l'
   induction l' with
   |nil=>intro a _;rfl
   |cons y l' ih=>intro a hl;rw[I3,I3,relax_ne T m (hl y (B1 ..))];exact ih _ fun x hx=>hl x (C1 _ hx)
  exact key l _ fun x hx=>h x (C1 _ hx)
theorem mem_one {v:Option Int} {nd:Nd} {m:Mv} (h:m∈one v nd):m.2=nd∧v=some m.1:=by
 unfold one at h
 cases v with
 |none=>cases h
 |some x=>simp only[Y2]at h;subst h;exact⟨rfl,rfl⟩
theorem moves_ne {cs:List Int} {i st:Nat} (hs:st<=4):∀m∈moves cs i st,m.2≠(i,st):=by
 intro m hm;have key:∀(v:Option Int) (j t:Nat),m∈one v (j,t)->i<j->m.2≠(i,st):=fun v j t h hj=>by rw[(mem_one h).1];intro e;injection e with e;omega
 have h5:st=0∨st=1∨st=2∨st=3∨st=4:=by omega
 rcases h5 with rfl|rfl|rfl|rfl|rfl;·exact VF
 ·exact VF
 ·replace hm:m∈[((98:Int),i,1),(99,i,4),(100,i,3)]++one (own (cs.getD i 0) 2) (i+1,2):=hm;exact EH
 ·replace hm:m∈[((98:Int),i,0),(99,i,4),(101,i,2)]++one (own (cs.getD i 0) 3) (i+1,3):=hm;exact EH
 ·replace hm:m∈([((100:Int),i,3),(101,i,2)]++one (pairAt cs i) (i+2,4))++one (own (cs.getD i 0) 4) (i+1,4):=hm;rcases M2.1 hm with hm|hm;(·rcases M2.1 hm with hm|hm;(·simp only[U1,L4,M4]at hm;rcases hm with rfl|rfl<;>simp);·exact VF);·exact VF
theorem node_ne {cs:List Int} {i st:Nat} {T:Tab} {x:Nd} (h:x≠(i,st)):node cs i T st x=T x:=fold_ne h _ _
theorem node_at {cs:List Int} {i st:Nat} {T:Tab} (hs:st<=4):node cs i T st (i,st)=(moves cs i st).foldl (fun a m=>omin a (inc (T m.2))) (T (i,st)):=fold_at _ _ _ (moves_ne hs)
theorem fold_one (T:Tab) (v:Option Int) (nd:Nd) (a:Option Nat):(one v nd).foldl (fun a m=>omin a (inc (T m.2))) a=omin a (if v.isSome then inc (T nd)else none):=by
 cases v with
 |none=>cases a<;>rfl
 |some x=>rfl
abbrev V5:=Option Nat×Option Nat×Option Nat×Option Nat×Option Nat
def vals (T:Tab) (i:Nat):V5:=(T (i,0),T (i,1),T (i,2),T (i,3),T (i,4))
def rnd (q0 q1 q2 q3 qp q4:Option Nat) (v:V5):V5:=
 let w0:=omin v.1 q0
 let w1:=omin v.2.1 q1
 let w2:=omin (omin (omin (omin v.2.2.1 (inc w1)) (inc v.2.2.2.2)) (inc v.2.2.2.1)) q2
 let w3:=omin (omin (omin (omin v.2.2.2.1 (inc w0)) (inc v.2.2.2.2)) (inc w2)) q3
 let w4:=omin (omin (omin (omin v.2.2.2.2 (inc w3)) (inc w2)) qp) q4
 (w0,w1,w2,w3,w4)
def q (v:Option Int) (n:Option Nat):Option Nat:=if v.isSome then inc n else none
theorem round_ne {cs:List Int} {i:Nat} {T:Tab} {x:Nd} (h:x.1≠i):round cs i T x=T x:=by unfold round;simp only[I3,YY];have hx:∀s,x≠(i,s):=fun s e=>h (by rw[e]);rw[node_ne (hx _),node_ne (hx _),node_ne (hx _),node_ne (hx _),node_ne (hx _)]
theorem round_vals (cs:List Int) (i:Nat) (T:Tab):vals (round cs i T) i=rnd (q (valOf (cs.getD i 0) 2) (T (i+1,3))) (q (valOf (cs.getD i 0) 3) (T (i+1,2))) (q (own (cs.getD i 0) 2) (T (i+1,2))) (q (own (cs.getD i 0) 3) (T (i+1,3))) (q (pairAt cs i) (T (i+2,4))) (q (own (cs.getD i 0) 4) (T (i+1,4))) (vals T i):=by
 obtain⟨T1,h1⟩:∃T1,T1=node cs i T 0:=⟨_,rfl⟩;obtain⟨T2,h2⟩:∃T2,T2=node cs i T1 1:=⟨_,rfl⟩;obtain⟨T3,h3⟩:∃T3,T3=node cs i T2 2:=⟨_,rfl⟩;obtain⟨T4,h4⟩:∃T4,T4=node cs i T3 3:=⟨_,rfl⟩;obtain⟨T5,h5⟩:∃T5,T5=node cs i T4 4:=⟨_,rfl⟩;have e:round cs i T=T5:=by subst h5 h4 h3 h2 h1;rfl
 have ne:∀(T T':Tab) (s:Nat),T'=node cs i T s->∀j t,(j≠i∨t≠s)->T' (j,t)=T (j,t):=by intro T T' s h j t ht;rw[h];refine node_ne fun e=> ?_;injection e with e1 e2;rcases ht with ht|ht;(·exact ht e1);·exact ht e2
 have a1:T1 (i,0)=omin (T (i,0)) (q (valOf (cs.getD i 0) 2) (T (i+1,3))):=by rw[h1,node_at C0];exact fold_one T _ _ _
 have a2:T2 (i,1)=omin (T1 (i,1)) (q (valOf (cs.getD i 0) 3) (T1 (i+1,2))):=by rw[h2,node_at C0];exact fold_one T1 _ _ _
 have a3:T3 (i,2)=omin (omin (omin (omin (T2 (i,2)) (inc (T2 (i,1)))) (inc (T2 (i,4)))) (inc (T2 (i,3)))) (q (own (cs.getD i 0) 2) (T2 (i+1,2))):=by rw[h3,node_at C0];exact EI
 have a4:T4 (i,3)=omin (omin (omin (omin (T3 (i,3)) (inc (T3 (i,0)))) (inc (T3 (i,4)))) (inc (T3 (i,2)))) (q (own (cs.getD i 0) 3) (T3 (i+1,3))):=by rw[h4,node_at C0];exact EI
 have a5:T5 (i,4)=omin (omin (omin (omin (T4 (i,4)) (inc (T4 (i,3)))) (inc (T4 (i,2)))) (q (pairAt cs i) (T4 (i+2,4)))) (q (own (cs.getD i 0) 4) (T4 (i+1,4))):=by rw[h5,node_at C0];show List.foldl _ _ (([_,_]++one _ _)++one _ _)=_;rw[V9,V9,fold_one,fold_one];rfl
 have n1:=ne T T1 0 h1;have n2:=ne T1 T2 1 h2;have n3:=ne T2 T3 2 h3;have n4:=ne T3 T4 3 h4;have n5:=ne T4 T5 4 h5;rw[e];unfold vals rnd;dsimp only;have b0:T5 (i,0)=T1 (i,0):=by rw[n5 _ _ (.inr C0),n4 _ _ (.inr C0),n3 _ _ (.inr C0),n2 _ _ (.inr C0)]
 have b1:T5 (i,1)=T2 (i,1):=by rw[n5 _ _ (.inr C0),n4 _ _ (.inr C0),n3 _ _ (.inr C0)]
 have b2:T5 (i,2)=T3 (i,2):=by rw[n5 _ _ (.inr C0),n4 _ _ (.inr C0)]
 have b3:T5 (i,3)=T4 (i,3):=by rw[n5 _ _ (.inr C0)]
 have c1:T1 (i,1)=T (i,1):=n1 _ _ (.inr C0);have c1':∀t,T1 (i+1,t)=T (i+1,t):=fun t=>n1 _ _ (.inl C0);have c2:T2 (i,2)=T (i,2):=NI
 have c2':∀t,T2 (i+1,t)=T (i+1,t):=fun t=>by rw[n2 _ _ (.inl C0),c1']
 have c3:T2 (i,3)=T (i,3):=NI
 have c4:T2 (i,4)=T (i,4):=NI
 have d0:T3 (i,0)=T1 (i,0):=by rw[n3 _ _ (.inr C0),n2 _ _ (.inr C0)]
 have d3:T3 (i,3)=T (i,3):=by rw[n3 _ _ (.inr C0),c3]
 have d4:T3 (i,4)=T (i,4):=by rw[n3 _ _ (.inr C0),c4]
 have d':∀t,T3 (i+1,t)=T (i+1,t):=fun t=>by rw[n3 _ _ (.inl C0),c2']
 have e4:T4 (i,4)=T (i,4):=by rw[n4 _ _ (.inr C0),d4]
 have e2:T4 (i,2)=T3 (i,2):=n4 _ _ (.inr C0);have e':∀t,T4 (i+1,t)=T (i+1,t):=fun t=>by rw[n4 _ _ (.inl C0),d']
 have e'':∀t,T4 (i+2,t)=T (i+2,t):=fun t=>by rw[n4 _ _ (.inl C0),n3 _ _ (.inl C0),n2 _ _ (.inl C0),n1 _ _ (.inl C0)]
 simp only[b0,b1,b2,b3,a5,a4,a3,a2,a1,c1,c1',c2,c2',c3,c4,d0,d3,d4,d',e4,e2,e',e'']
end Cs
end
end Go.Proofs.YtbngggoccndefaaGreatDoor
