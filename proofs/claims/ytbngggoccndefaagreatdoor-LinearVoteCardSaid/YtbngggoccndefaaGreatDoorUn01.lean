/-
  Laid.
-/
import Derived.Test.YtbngggoccndefaaGreatDoorUn00
import Derived.Test.YtbngggoccndefaaGreatDoorProg
set_option maxHeartbeats 16000000
set_option maxRecDepth 100000
set_option linter.all false
namespace Go.Proofs.YtbngggoccndefaaGreatDoor
open Go.Proofs.Tryz
section
namespace Cd
def dg (c:UInt8):Int:=(c.toNat:Int)-48
def isDig (c:Int):Bool:=decide (48<=c)&&decide (c<=57)
def AllDig (l:List UInt8):Prop:=∀c∈l,48<=c.toNat∧c.toNat<=57
def syms:List UInt8:=[48,49,50,51,52,53,54,55,56,57,65,66,67,68,69,70,71,72,73,74,75,76,77,78,79,80,81,82,83,84,85,86,87,88,89,90,45,46,32,36,47,43,37]
def plc (c:UInt8):Int:=Lib.indexByte syms c
theorem dg_bd {c:UInt8} (h:48<=c.toNat∧c.toNat<=57):0<=dg c∧dg c<=9:=by unfold dg;omega
theorem allDig_drop {l:List UInt8} (h:AllDig l) (k:Nat):AllDig (l.drop k):=fun c hc=>h c (M6 hc)
theorem allDig_take {l:List UInt8} (h:AllDig l) (k:Nat):AllDig (l.take k):=fun c hc=>h c (G4 hc)
def gsP:List UInt8->Int×Int
 | []=>(0,3)
 |c::l=>((gsP l).1+(gsP l).2*dg c,4-(gsP l).2)
theorem gsP_w (l:List UInt8):(gsP l).2=if l.length%2=0 then 3 else 1:=by
 induction l with
 |nil=>rfl
 |cons c l ih=>simp only[gsP,ih,D1];split<;>split<;>omega
theorem gsP_bd (l:List UInt8) (h:AllDig l):0<=(gsP l).1∧(gsP l).1<=27*l.length:=by
 induction l with
 |nil=>simp[gsP]
 |cons c l ih=>have h1:=ih (fun x hx=>h x (V2 _ hx));have h2:=dg_bd (h c (N2 ..));have h3:=gsP_w l;simp only[gsP,D1];split at h3<;>rw[h3]<;>omega
def dbl (x:Int):Int:=if 2*x>9 then 2*x-9 else 2*x
theorem dbl_hi (x:Int) (h:9<x*2):dbl x=x*2-9:=by unfold dbl;rw[D0 B0];omega
theorem dbl_lo (x:Int) (h:¬9<x*2):dbl x=x*2:=by unfold dbl;rw[C0 B0];omega
def lnP:List UInt8->Int×Bool
 | []=>(0,true)
 |c::l=>((lnP l).1+(if(lnP l).2 then dbl (dg c)else dg c),!(lnP l).2)
theorem lnP_w (l:List UInt8):(lnP l).2=decide (l.length%2=0):=by
 induction l with
 |nil=>rfl
 |cons c l ih=>simp only[lnP,ih,D1];by_cases h:l.length%2=0;(·have:¬(l.length+1)%2=0:=B0;simp[h,this]);·have:(l.length+1)%2=0:=B0;simp[h,this]
theorem lnP_bd (l:List UInt8) (h:AllDig l):0<=(lnP l).1∧(lnP l).1<=9*l.length:=by
 induction l with
 |nil=>simp[lnP]
 |cons c l ih=>have h1:=ih (fun x hx=>h x (V2 _ hx));have h2:=dg_bd (h c (N2 ..));simp only[lnP,D1];unfold dbl;split;(·exact Y6);·omega
def isb:List UInt8->Int
 | []=>0
 |c::l=>isb l+((l.length:Int)+2)*dg c
def permL:List Int:=[1,5,7,6,2,8,3,0,9,4]
def perm (x:Int):Int:=permL.getD x.toNat 0
def permN:Nat->Int->Int
 |0,x=>x
 |n+1,x=>perm (permN n x)
def dih (a b:Int):Int:=if a<5 then(if b<5 then(a+b)%5 else 5+(a+b-5)%5)else(if b<5 then 5+(a-b)%5 else(a-b+5)%5)
def vh:List UInt8->Int
 | []=>0
 |c::l=>dih (vh l) (permN (l.length+1) (dg c))
def inv (c:Int):Int:=if c<5 then(5-c)%5 else c
def dmT:List (List UInt8):=[[48,51,49,55,53,57,56,54,52,50],[55,48,57,50,49,53,52,56,54,51],[52,50,48,54,56,55,49,51,53,57],[49,55,53,48,57,56,51,52,50,54],[54,49,50,51,48,52,53,57,55,56],[51,54,55,52,50,48,57,53,56,49],[53,56,54,57,55,50,48,49,51,52],[56,57,52,53,51,54,50,48,49,55],[57,52,51,56,54,49,55,50,48,53],[50,53,56,49,52,51,54,55,57,48]]
def dmAt (c x:Int):Int:=dg ((dmT.getD c.toNat []).getD x.toNat 48)
def dm (l:List UInt8):Int:=l.foldl (fun c x=>dmAt c (dg x)) 0
def i97 (l:List UInt8):Int:=l.foldl (fun r c=>(10*r+dg c)%97) 0
def i11 (l:List UInt8):Int:=l.foldl (fun p c=>2*(p+dg c)%11) 0
def c39 (l:List UInt8):Int:=(l.map plc).foldl (·+·) 0
def chr (v:Int):UInt8:=if v=10 then 88 else UInt8.ofNat (48+v.toNat)
def cmp (k:Nat) (l:List UInt8):List UInt8:=
 match k with
 |1=>[chr ((10-(gsP l).1%10)%10)]
 |2=>[chr ((10-(lnP l).1%10)%10)]
 |3=>[chr ((11-isb l%11)%11)]
 |4=>[chr (inv (vh l))]
 |5=>[chr (dm l)]
 |6=>[chr ((98-100*i97 l%97)/10),chr ((98-100*i97 l%97)%10)]
 |7=>[syms.getD (c39 l%43).toNat 48]
 |8=>[chr ((12-i11 l)%11)]
 |_=>[]
def size (k:Nat):Nat:=if k=6 then 2 else 1
def datB (k:Nat) (c:Int):Bool:=if k=7 then decide (0<=plc c.toNat.toUInt8)else isDig c
def chkB (k:Nat) (c:Int):Bool:=if k=7 then decide (0<=plc c.toNat.toUInt8)else if k=3∨k=8 then(isDig c || (c==88))else isDig c
def fits (k:Nat) (n:Nat):Bool:=if k=3 then n==10 else decide (size k<n)
def ver (k:Nat) (l:List UInt8):Int:=
 if 4096<l.length then 4
 else if fits k l.length=false then 7
 else if(l.take (l.length-size k)).all (fun c=>datB k c.toNat)=false then 6
 else if(l.drop (l.length-size k)).all (fun c=>chkB k c.toNat)=false then 6
 else if cmp k (l.take (l.length-size k))=l.drop (l.length-size k)then 0 else 8
def verI (k:Int) (l:List UInt8):Int:=if k<1∨8<k then 1 else ver k.toNat l
def comp (k:Nat) (l:List UInt8):List UInt8×Int:=
 if l=[]then([],5)
 else if 4096<l.length then([],4)
 else if l.all (fun c=>datB k c.toNat)=false then([],6)
 else if fits k (l.length+size k)=false then([],7)
 else(cmp k l,0)
def compI (k:Int) (l:List UInt8):List UInt8×Int:=if k<1∨8<k then([],1)else comp k.toNat l
def app (k:Int) (l:List UInt8):List UInt8×Int:=
 if(compI k l).2=0 then(if 4096<l.length+(compI k l).1.length then([],4)else(l++(compI k l).1,0))else([],(compI k l).2)
def wt (ws:List Int) (m:Int) (i:Nat):Int:=((ws.getD (i%ws.length) 0).tmod m+m)%m
def wsP (ws:List Int) (m:Int):List UInt8->Int
 | []=>0
 |c::l=>(wsP ws m l+dg c*wt ws m l.length)%m
theorem size_bd (k:Nat):1<=size k∧size k<=2:=by unfold size;exact Y6
theorem fits_lt (k n:Nat) (h:fits k n=true):size k<n:=by
 unfold fits at h;split at h;·rename_i h3;subst h3;have:n=10:=M5;subst this;decide
 ·simpa using h
theorem fits_isbn (n:Nat) (h:fits 3 n=true):n=10:=by simpa[fits]using h
theorem foldl_snoc {α β:Type} (f:β->α->β) (b:β) (l:List α) (x:α):(l++[x]).foldl f b=f (l.foldl f b) x:=by simp
theorem perm_bd (x:Int):0<=perm x∧perm x<=9:=by
 unfold perm
 generalize x.toNat=n
 match n with
 |0=>decide
 |1=>decide
 |2=>decide
 |3=>decide
 |4=>decide
 |5=>decide
 |6=>decide
 |7=>decide
 |8=>decide
 |9=>decide
 |n+10=>simp[permL]
theorem permN_bd (n:Nat) (x:Int) (h:0<=x∧x<=9):0<=permN n x∧permN n x<=9:=by
 cases n with
 |zero=>exact h
 |succ n=>exact perm_bd _
theorem dih_bd (a b:Int) (_ha:0<=a∧a<=9) (_hb:0<=b∧b<=9):0<=dih a b∧dih a b<=9:=by unfold dih;split<;>split<;>omega
theorem vh_bd (l:List UInt8) (h:AllDig l):0<=vh l∧vh l<=9:=by
 induction l with
 |nil=>simp[vh]
 |cons c l ih=>exact dih_bd _ _ (ih (fun x hx=>h x (V2 _ hx))) (permN_bd _ _ (dg_bd (h c (N2 ..))))
theorem isb_bd (l:List UInt8) (h:AllDig l) (hl:l.length<=9):0<=isb l∧isb l<=99*l.length:=by
 induction l with
 |nil=>simp[isb]
 |cons c l ih=>simp only[D1]at hl;have h1:=ih (fun x hx=>h x (V2 _ hx)) B0;have h2:=dg_bd (h c (N2 ..));simp only[isb,D1];have h3:0<=((l.length:Int)+2)*dg c:=T7 B0 h2.1;have h4:((l.length:Int)+2)*dg c<=11*9:=S8 B0 h2.2 h2.1 B0;omega
theorem foldl_inv {α:Type} (f:Int->α->Int) (P:Int->Prop) (l:List α) (b:Int) (hb:P b) (hs:∀p c,P p->P (f p c)):P (l.foldl f b):=by
 induction l generalizing b with
 |nil=>exact hb
 |cons c l ih=>exact ih _ (hs _ _ hb)
theorem dmAt_bd (c x:Int):0<=c∧c<=9->0<=x∧x<=9->0<=dmAt c x∧dmAt c x<=9:=by
 intro hc hx;obtain⟨c,rfl⟩:=K4 hc.1;obtain⟨x,rfl⟩:=K4 hx.1;have h:∀(c:Fin 10) (x:Fin 10),0<=dmAt (c.1:Int) (x.1:Int)∧dmAt (c.1:Int) (x.1:Int)<=9:=by decide
 exact h ⟨c,by omega⟩ ⟨x,by omega⟩
theorem dm_bd (l:List UInt8) (h:AllDig l):0<=dm l∧dm l<=9:=by
 have:∀(l:List UInt8) (b:Int),AllDig l->0<=b∧b<=9->0<=l.foldl (fun c x=>dmAt c (dg x)) b∧l.foldl (fun c x=>dmAt c (dg x)) b<=9:=by
  intro l
  induction l with
  |nil=>intro b _ hb;exact hb
  |cons c l ih=>intro b h hb;exact ih _ (fun x hx=>h x (V2 _ hx)) (dmAt_bd _ _ hb (dg_bd (h c (N2 ..))))
 exact this l 0 h B0
theorem i97_bd (l:List UInt8):0<=i97 l∧i97 l<=96:=foldl_inv _ (fun p=>0<=p∧p<=96) l 0 B0 (fun p c hp=>by omega)
theorem i11_bd (l:List UInt8):0<=i11 l∧i11 l<=10:=foldl_inv _ (fun p=>0<=p∧p<=10) l 0 B0 (fun p c hp=>by omega)
theorem plc_bd (c:UInt8): -1<=plc c∧plc c<=42:=by
 have h:∀(l:List UInt8),-1<=Lib.indexByte l c∧Lib.indexByte l c<(l.length:Int):=by
  intro l
  induction l with
  |nil=>simp[Lib.indexByte]
  |cons b l ih=>simp only[Lib.indexByte,D1];split;(·omega);·exact Y6
 have:=h syms;have e:(syms.length:Int)=43:=rfl;unfold plc;omega
theorem c39_bd (l:List UInt8) (h:∀c∈l,0<=plc c):0<=c39 l∧c39 l<=42*l.length:=by
 have:∀(l:List UInt8) (b:Int),(∀c∈l,0<=plc c)->b<=(l.map plc).foldl (·+·) b∧(l.map plc).foldl (·+·) b<=b+42*l.length:=by
  intro l
  induction l with
  |nil=>intro b _;simp
  |cons c l ih=>intro b h;have h1:=ih (b+plc c) (fun x hx=>h x (V2 _ hx));have h2:=plc_bd c;have h3:=h c (N2 ..);simp only[I5,F1,D1];omega
 have:=this l 0 h;unfold c39;omega
theorem inv_bd (c:Int) (_h:0<=c∧c<=9):0<=inv c∧inv c<=9:=by unfold inv;exact Y6
theorem dih_inv (c:Int) (_h:0<=c∧c<=9):dih (inv c) c=0:=by
 unfold dih inv
 repeat' split
 all_goals omega
theorem dih_inv_only (c e:Int) (h:0<=c∧c<=9) (he:0<=e∧e<=9) (h0:dih e c=0):e=inv c:=by unfold dih at h0;unfold inv;split at h0<;>split at h0<;>split<;>omega
theorem dec1:∀i:Fin 10,Lib.decDigits i.1=[UInt8.ofNat (48+i.1)]:=by intro i;rw[Lib.decDigits];simp
theorem dec_chr (v:Nat) (h:v<10):Lib.decDigits v=[chr (v:Int)]:=by rw[dec1 ⟨v,h⟩,chr,C0 B0];simp
end Cd
namespace Ea
def size (k:Int):Nat:=if k=1 then 13 else if k=2 then 8 else if k=3 then 12 else if k=4 then 8 else 0
def digs (l:List UInt8):Bool:=l.all (fun c=>Cd.isDig c.toNat)
def exp7 (l:List UInt8):List UInt8:=
 if l.getD 6 0<=50 then l.take 3++(l.drop 6).take 1++[48,48,48,48]++(l.drop 3).take 3
 else if l.getD 6 0=51 then l.take 4++[48,48,48,48,48]++(l.drop 4).take 2
 else if l.getD 6 0=52 then l.take 5++[48,48,48,48,48]++(l.drop 5).take 1
 else l.take 6++[48,48,48,48]++(l.drop 6).take 1
def exp8 (l:List UInt8):List UInt8:=exp7 (l.take 7)++l.drop 7
def chk (l:List UInt8):UInt8:=Cd.chr ((10-(Cd.gsP l).1%10)%10)
def chkOf (k:Int) (l:List UInt8):UInt8:=if k=4 then chk (exp7 l)else chk l
def comp (k:Int) (l:List UInt8):List UInt8×Int:=
 if size k=0 then([],1)
 else if digs l=false then([],6)
 else if l.length≠size k∧l.length+1≠size k then([],7)
 else if k=4∧49<l.getD 0 0 then([],9)
 else if l.length=size k∧l≠l.take (size k-1)++[chkOf k (l.take (size k-1))]then([],8)
 else(l.take (size k-1)++[chkOf k (l.take (size k-1))],0)
def full (k:Int) (l:List UInt8):Int:=if size k≠0∧digs l=true∧l.length+1=size k then 7 else(comp k l).2
def bits (l:List Nat):List Bool:=l.map (fun x=>x==1)
def tab:List (List (List Bool)):=[
 [bits [0,0,0,1,1,0,1],bits [0,0,1,1,0,0,1],bits [0,0,1,0,0,1,1],bits [0,1,1,1,1,0,1],bits [0,1,0,0,0,1,1],bits [0,1,1,0,0,0,1],bits [0,1,0,1,1,1,1],bits [0,1,1,1,0,1,1],bits [0,1,1,0,1,1,1],bits [0,0,0,1,0,1,1]],
 [bits [0,1,0,0,1,1,1],bits [0,1,1,0,0,1,1],bits [0,0,1,1,0,1,1],bits [0,1,0,0,0,0,1],bits [0,0,1,1,1,0,1],bits [0,1,1,1,0,0,1],bits [0,0,0,0,1,0,1],bits [0,0,1,0,0,0,1],bits [0,0,0,1,0,0,1],bits [0,0,1,0,1,1,1]],
 [bits [1,1,1,0,0,1,0],bits [1,1,0,0,1,1,0],bits [1,1,0,1,1,0,0],bits [1,0,0,0,0,1,0],bits [1,0,1,1,1,0,0],bits [1,0,0,1,1,1,0],bits [1,0,1,0,0,0,0],bits [1,0,0,0,1,0,0],bits [1,0,0,1,0,0,0],bits [1,1,1,0,1,0,0]]]
def modl (t d:Nat):List Bool:=(tab.getD t []).getD d []
def gd:List Bool:=bits [1,0,1]
def md:List Bool:=bits [0,1,0,1,0]
def eE:List Bool:=bits [0,1,0,1,0,1]
def sA:List Bool:=bits [1,0,1,1]
def gA:List Bool:=bits [0,1]
def lgt (n:Nat):List Bool:=List.replicate n false
def setsL:List (List Nat):=[[0,0,0,0,0,0],[0,0,1,0,1,1],[0,0,1,1,0,1],[0,0,1,1,1,0],[0,1,0,0,1,1],[0,1,1,0,0,1],[0,1,1,1,0,0],[0,1,0,1,0,1],[0,1,0,1,1,0],[0,1,1,0,1,0]]
def setsE0:List (List Nat):=[[1,1,1,0,0,0],[1,1,0,1,0,0],[1,1,0,0,1,0],[1,1,0,0,0,1],[1,0,1,1,0,0],[1,0,0,1,1,0],[1,0,0,0,1,1],[1,0,1,0,1,0],[1,0,1,0,0,1],[1,0,0,1,0,1]]
def sets13 (d:Nat):List Nat:=setsL.getD d []
def setsE (s c:Nat):List Nat:=if s=0 then setsE0.getD c []else(setsE0.getD c []).map (fun x=>1-x)
def setsA2:List (List Nat):=[[0,0],[0,1],[1,0],[1,1]]
def setsA5:List (List Nat):=[[1,1,0,0,0],[1,0,1,0,0],[1,0,0,1,0],[1,0,0,0,1],[0,1,1,0,0],[0,0,1,1,0],[0,0,0,1,1],[0,1,0,1,0],[0,1,0,0,1],[0,0,1,0,1]]
def dv (l:List UInt8) (i:Nat):Nat:=(l.getD i 48).toNat-48
def setsAdd (l:List UInt8):List Nat:=
 if l.length=2 then setsA2.getD ((10*dv l 0+dv l 1)%4) []
 else setsA5.getD ((3*(dv l 0+dv l 2+dv l 4)+9*(dv l 1+dv l 3))%10) []
def drw (sep:List Bool):List UInt8->List Nat->List Bool
 | [],_=>[]
 |_,[]=>[]
 | [c],t::_=>modl t (c.toNat-48)
 |c::d::l,t::ts=>modl t (c.toNat-48)++sep++drw sep (d::l) ts
def sym13 (l:List UInt8):List Bool:=gd++drw [] ((l.drop 1).take 6) (sets13 (dv l 0))++md++drw [] (l.drop 7) [2,2,2,2,2,2]++gd
def sym8 (l:List UInt8):List Bool:=gd++drw [] (l.take 4) [0,0,0,0]++md++drw [] (l.drop 4) [2,2,2,2]++gd
def symE (l:List UInt8):List Bool:=gd++drw [] ((l.drop 1).take 6) (setsE (dv l 0) (dv l 7))++eE
def sym (k:Int) (l:List UInt8):List Bool:=if k=3 then sym13 (48::l)else if k=1 then sym13 l else if k=2 then sym8 l else symE l
def addn (l:List UInt8):List Bool:=sA++drw gA l (setsAdd l)
def lq (k:Int):Nat:=if k=1 then 11 else if k=2 then 7 else 9
def rq (k:Int):Nat:=if k=3 then 9 else 7
def enc (k:Int) (l a:List UInt8):List Bool×Int:=
 if full k l≠0 then([],full k l)
 else if digs a=false then([],6)
 else if a.length≠0∧a.length≠2∧a.length≠5 then([],7)
 else if a.length=0 then(lgt (lq k)++sym k l++lgt (rq k),0)
 else(lgt (lq k)++sym k l++lgt 9++addn a++lgt 7,0)
def idx {α:Type} [DecidableEq α]:List α->α->Option Nat
 | [],_=>none
 |x::l,y=>if x=y then some 0 else(idx l y).map (·+1)
def lookT (t:Nat) (m:List Bool):Option Nat:=idx (tab.getD t []) m
def look (both:Bool) (t:Nat) (m:List Bool):Option (Nat×Nat):=
 if both=true then(match lookT 1 m with
  |some d=>some (d,1)
  |none=>(lookT 0 m).map (fun d=>(d,0)))
 else(lookT t m).map (fun d=>(d,t))
def rcg (both:Bool) (t gap:Nat):Nat->List Bool->Option (List UInt8×List Nat)
 |0,_=>some ([],[])
 |n+1,s=>match look both t (s.take 7)with
  |none=>none
  |some (d,u)=>match rcg both t gap n (s.drop (7+gap))with
   |none=>none
   |some (ds,us)=>some (UInt8.ofNat (48+d)::ds,u::us)
def find13 (u:List Nat):Option Nat:=idx setsL u
def findE (u:List Nat):Option (Nat×Nat):=match idx setsE0 u with
 |some c=>some (0,c)
 |none=>(idx (setsE0.map (fun l=>l.map (fun x=>1-x))) u).map (fun c=>(1,c))
def chr (d:Nat):UInt8:=UInt8.ofNat (48+d)
def rd13 (s:List Bool):Option (List UInt8):=match rcg true 0 0 6 (s.drop 3),rcg false 2 0 6 (s.drop 50)with
 |some (l,u),some (r,_)=>if(s.drop 45).take 5=md then(find13 u).map (fun d=>chr d::(l++r))else none
 |_,_=>none
def rd8 (s:List Bool):Option (List UInt8):=match rcg false 0 0 4 (s.drop 3),rcg false 2 0 4 (s.drop 36)with
 |some (l,_),some (r,_)=>if(s.drop 31).take 5=md then some (l++r)else none
 |_,_=>none
def rdE (s:List Bool):Option (List UInt8):=match rcg true 0 0 6 (s.drop 3)with
 |some (l,u)=>(findE u).map (fun p=>chr p.1::(l++[chr p.2]))
 |none=>none
def kindOf (n:Nat):Int:=if n=95 then 1 else if n=67 then 2 else 4
def rdK (n:Nat) (s:List Bool):Option (List UInt8):=if n=95 then rd13 s else if n=67 then rd8 s else rdE s
def stp (n:Nat):List Bool:=if n=51 then eE else gd
def rdSym (n:Nat) (s:List Bool):(Int×List UInt8)×Int:=
 if s.take 3≠gd then((0,[]),19)
 else if s.drop (n-(stp n).length)≠stp n then((0,[]),20)
 else match rdK n s with
  |none=>((0,[]),18)
  |some l=>if full (kindOf n) l≠0 then((0,[]),8)
   else if n=95∧l.getD 0 0=48 then((3,l.drop 1),0)else((kindOf n,l),0)
def rdAdd (n:Nat) (s:List Bool):List UInt8×Int:=
 if s.take 4≠sA then([],19)
 else if(List.range (n-1)).all (fun i=>(s.drop (11+9*i)).take 2==gA)=false then([],18)
 else match rcg true 0 2 n (s.drop 4)with
  |none=>([],18)
  |some (l,u)=>if setsAdd l≠u then([],8)else(l,0)
def wAdd (n:Nat):Nat:=if n=0 then 0 else if n=2 then 20 else 47
def fits (s:List Bool) (n a:Nat):Bool:=
 if a=0 then s.length==n else decide (n+wAdd a+7<=s.length)&&decide (s.length<=n+wAdd a+12)&&((s.drop n).take (s.length-n-wAdd a)).all (fun b=> !b)
abbrev Got:=(Int×List UInt8×List UInt8)×Int
def rdShape (s:List Bool) (n a:Nat):Got:=
 if(rdSym n (s.take n)).2≠0 then((0,[],[]),(rdSym n (s.take n)).2)
 else if a=0 then(((rdSym n (s.take n)).1.1,(rdSym n (s.take n)).1.2,[]),0)
 else if(rdAdd a (s.drop (s.length-wAdd a))).2≠0 then((0,[],[]),(rdAdd a (s.drop (s.length-wAdd a))).2)
 else(((rdSym n (s.take n)).1.1,(rdSym n (s.take n)).1.2,(rdAdd a (s.drop (s.length-wAdd a))).1),0)
def shapes:List (Nat×Nat):=[(95,0),(95,2),(95,5),(67,0),(67,2),(67,5),(51,0),(51,2),(51,5)]
def decF (s:List Bool):Int->List (Nat×Nat)->Got
 |e,[]=>((0,[],[]),e)
 |e,(n,a)::l=>if fits s n a=false then decF s e l
  else if(rdShape s n a).2=0 then rdShape s n a
  else decF s (if e=7 then(rdShape s n a).2 else e) l
def ldg:List Bool->Nat
 | []=>0
 |b::l=>if b then 0 else ldg l+1
def trl (s:List Bool):Nat:=ldg s.reverse
def dec (s:List Bool):Got:=
 if 65536<s.length then((0,[],[]),4)
 else if ldg s=s.length then((0,[],[]),5)
 else if ldg s<7∨trl s<7 then((0,[],[]),9)
 else decF ((s.drop (ldg s)).take (s.length-trl s-ldg s)) 7 shapes
end Ea
namespace Tw
def cutAt (ps:List UInt8) (z i:Nat):List UInt8:=(ps.drop (i*z)).take z
def pat (cs ps:List UInt8) (z:Nat) (c:UInt8):List UInt8×Bool:=
 if Lib.indexByte cs c<0 then([],false)else(cutAt ps z (Lib.indexByte cs c).toNat,true)
def chr (cs ps:List UInt8) (z:Nat) (p:List UInt8):UInt8×Bool:=
 match(List.range cs.length).find? (fun i=>cutAt ps z i==p)with
 |some i=>(cs.getD i 0,true)
 |none=>(0,false)
theorem chr_at (cs ps:List UInt8) (z:Nat) (p:List UInt8) (j:Nat) (hj:j<cs.length) (h:cutAt ps z j=p) (hb:∀i,i<j->cutAt ps z i≠p):chr cs ps z p=(cs.getD j 0,true):=by
 have:(List.range cs.length).find? (fun i=>cutAt ps z i==p)=some j:=zH
 unfold chr;rw[this]
theorem chr_none (cs ps:List UInt8) (z:Nat) (p:List UInt8) (hb:∀i,i<cs.length->cutAt ps z i≠p):chr cs ps z p=(0,false):=by
 have:(List.range cs.length).find? (fun i=>cutAt ps z i==p)=none:=zI
 unfold chr;rw[this]
def only (l cs:List UInt8):Bool:=l.all fun c=>decide (0<=Lib.indexByte cs c)
def counts (z least most:Nat) (n:Nat) (check:Bool):Bool:=
 decide ((n+1)%(z+1)=0)&&decide (least+2+check.toNat<=(n+1)/(z+1))&&decide ((n+1)/(z+1)<=most+2+check.toNat)
def comp39 (l:List UInt8) (check:Bool):List UInt8×Int:=
 if only l Cd.syms=false then([],6)
 else if check=false then(42::l++[42],0)
 else if(Cd.compI 7 l).2=0 then(42::l++(Cd.compI 7 l).1++[42],0)else([],(Cd.compI 7 l).2)
def text39 (l:List UInt8) (check:Bool):List UInt8:=(l.drop 1).take (l.length-2-check.toNat)
end Tw
namespace Tw
def c39:List UInt8:=[48,49,50,51,52,53,54,55,56,57,65,66,67,68,69,70,71,72,73,74,75,76,77,78,79,80,81,82,83,84,85,86,87,88,89,90,45,46,32,36,47,43,37,42]
def p39:List UInt8:=[110,110,110,119,119,110,119,110,110,119,110,110,119,110,110,110,110,119,110,110,119,119,110,110,110,110,119,119,110,119,119,110,110,110,110,110,110,110,110,119,119,110,110,110,119,119,110,110,119,119,110,110,110,110,110,110,119,119,119,110,110,110,110,110,110,110,119,110,110,119,110,119,119,110,110,119,110,110,119,110,110,110,110,119,119,110,110,119,110,110,119,110,110,110,110,119,110,110,119,110,110,119,110,110,119,110,110,119,119,110,119,110,110,119,110,110,110,110,110,110,110,119,119,110,110,119,119,110,110,110,119,119,110,110,110,110,110,119,110,119,119,110,110,110,110,110,110,110,110,119,119,110,119,119,110,110,110,110,119,119,110,110,110,110,119,110,110,119,119,110,110,110,110,110,110,119,119,119,110,110,119,110,110,110,110,110,110,119,119,110,110,119,110,110,110,110,119,119,119,110,119,110,110,110,110,119,110,110,110,110,110,119,110,110,119,119,119,110,110,110,119,110,110,119,110,110,110,119,110,119,110,110,119,110,110,110,110,110,110,110,119,119,119,119,110,110,110,110,110,119,119,110,110,110,119,110,110,110,119,119,110,110,110,110,110,119,110,119,119,110,119,119,110,110,110,110,110,110,119,110,119,119,110,110,110,110,110,119,119,119,119,110,110,110,110,110,110,110,119,110,110,119,110,110,110,119,119,119,110,110,119,110,110,110,110,110,119,119,110,119,110,110,110,110,110,119,110,110,110,110,119,110,119,119,119,110,110,110,110,119,110,110,110,119,119,110,110,110,119,110,110,110,119,110,119,110,119,110,110,110,110,119,110,119,110,110,110,119,110,110,119,110,110,110,119,110,119,110,110,110,110,119,110,119,110,119,110,110,119,110,110,119,110,119,110,110]
def cCb:List UInt8:=[48,49,50,51,52,53,54,55,56,57,45,36,58,47,46,43,65,66,67,68]
def pCb:List UInt8:=[110,110,110,110,110,119,119,110,110,110,110,119,119,110,110,110,110,119,110,110,119,119,119,110,110,110,110,110,110,110,119,110,110,119,110,119,110,110,110,110,119,110,110,119,110,110,110,110,119,110,119,110,110,119,110,110,110,119,119,110,110,110,110,119,110,110,119,110,110,110,110,110,110,119,119,110,110,110,110,119,119,110,110,110,119,110,110,110,119,110,119,119,110,119,110,110,110,119,119,110,119,110,119,110,110,110,110,119,110,119,110,119,110,110,119,119,110,119,110,110,119,110,119,110,110,119,110,110,110,119,110,119,119,110,110,110,119,119,119,110]
def dCb:List UInt8:=[48,49,50,51,52,53,54,55,56,57,45,36,58,47,46,43]
def eCb:List UInt8:=[65,66,67,68]
def cItf:List UInt8:=[48,49,50,51,52,53,54,55,56,57]
def pItf:List UInt8:=[110,110,119,119,110,119,110,110,110,119,110,119,110,110,119,119,119,110,110,110,110,110,119,110,119,119,110,119,110,110,110,119,119,110,110,110,110,110,119,119,119,110,110,119,110,110,119,110,119,110]
def rdAt (cs ps:List UInt8) (z:Nat) (e:List UInt8) (i:Nat):UInt8×Bool:=chr cs ps z ((e.drop (i*(z+1))).take z)
def isIn (set:List UInt8) (r:UInt8×Bool):Bool:=r.2&&decide (0<=Lib.indexByte set r.1)
def rdErr (cs ps edge inner:List UInt8) (z:Nat) (e:List UInt8) (n i:Nat):Int:=
 if 0<i∧e.getD (i*(z+1)-1) 0=119 then 18
 else if i=0∧isIn edge (rdAt cs ps z e i)=false then 19
 else if i+1=n∧isIn edge (rdAt cs ps z e i)=false then 20
 else if 0<i∧i+1<n∧isIn inner (rdAt cs ps z e i)=false then 18
 else 0
def read (cs ps edge inner:List UInt8) (z:Nat) (e:List UInt8):List UInt8×Int:=
 match(List.range ((e.length+1)/(z+1))).find? (fun i=>rdErr cs ps edge inner z e ((e.length+1)/(z+1)) i !=0)with
 |some i=>([],rdErr cs ps edge inner z e ((e.length+1)/(z+1)) i)
 |none=>((List.range ((e.length+1)/(z+1))).map fun i=>(rdAt cs ps z e i).1,0)
theorem read_at (cs ps edge inner:List UInt8) (z:Nat) (e:List UInt8) (n j:Nat) (hn:n=(e.length+1)/(z+1)) (hj:j<n) (h:rdErr cs ps edge inner z e n j≠0) (hb:∀i,i<j->rdErr cs ps edge inner z e n i=0):
 read cs ps edge inner z e=([],rdErr cs ps edge inner z e n j):=by
 have:(List.range n).find? (fun i=>rdErr cs ps edge inner z e n i !=0)=some j:=zH
 unfold read;rw[<-hn,this]
theorem read_all (cs ps edge inner:List UInt8) (z:Nat) (e:List UInt8) (n:Nat) (hn:n=(e.length+1)/(z+1)) (hb:∀i,i<n->rdErr cs ps edge inner z e n i=0):
 read cs ps edge inner z e=((List.range n).map fun i=>(rdAt cs ps z e i).1,0):=by
 have:(List.range n).find? (fun i=>rdErr cs ps edge inner z e n i !=0)=none:=zI
 unfold read;rw[<-hn,this]
def sumCb (l:List UInt8):Int:=(l.map (Lib.indexByte cCb)).foldl (·+·) 0
def compCb (l:List UInt8) (check:Bool):List UInt8×Int:=
 if l.length<2 then([],7)
 else if only (l.take 1) eCb=false then([],19)
 else if only (l.drop (l.length-1)) eCb=false then([],20)
 else if only ((l.drop 1).take (l.length-2)) dCb=false then([],6)
 else if check=false then(l,0)
 else(l.take (l.length-1)++[dCb.getD ((16-sumCb l%16)%16).toNat 0]++l.drop (l.length-1),0)
def textCb (l:List UInt8) (check:Bool):List UInt8:=if check then l.take (l.length-2)++l.drop (l.length-1)else l
def countsItf (n:Nat):Bool:=decide (17<=n)&&decide ((n-7)%10=0)&&decide ((n-7)/10<=500)
def compItf (l:List UInt8) (check:Bool):List UInt8×Int:=
 if only l cItf=false then([],6)
 else if check=false then(if l.length%2=0 then(l,0)else([],7))
 else if(Cd.compI 1 l).2=0 then(if(l++(Cd.compI 1 l).1).length%2=0 then(l++(Cd.compI 1 l).1,0)else([],7))else([],(Cd.compI 1 l).2)
def mix:List UInt8->List UInt8->List UInt8
 |a::l,b::m=>a::b::mix l m
 |_,_=>[]
def drawPairs:List UInt8->List UInt8
 |a::b::l=>mix (pat cItf pItf 5 a).1 (pat cItf pItf 5 b).1++drawPairs l
 |_=>[]
def drawItf (l:List UInt8):List UInt8:=[110,110,110,110]++drawPairs l++[119,110,110]
def evens:List UInt8->List UInt8
 |a::_::l=>a::evens l
 |_=>[]
def odds:List UInt8->List UInt8
 |_::b::l=>b::odds l
 |_=>[]
def pairAt (e:List UInt8) (i:Nat):List UInt8:=(e.drop (4+10*i)).take 10
def digA (e:List UInt8) (i:Nat):UInt8×Bool:=chr cItf pItf 5 (evens (pairAt e i))
def digB (e:List UInt8) (i:Nat):UInt8×Bool:=chr cItf pItf 5 (odds (pairAt e i))
def pairOk (e:List UInt8) (i:Nat):Bool:=(digA e i).2&&(digB e i).2
def readItf (e:List UInt8):List UInt8×Int:=
 if e.take 4≠ [110,110,110,110]then([],19)
 else if(List.range ((e.length-7)/10)).all (pairOk e)=false then([],18)
 else if e.drop (e.length-3)≠ [119,110,110]then([],20)
 else((List.range ((e.length-7)/10)).flatMap fun i=>[(digA e i).1,(digB e i).1],0)
def textItf (l:List UInt8) (check:Bool):List UInt8:=if check then l.take (l.length-1)else l
def patK (k:Nat) (c:UInt8):List UInt8×Bool:=match k with
 |0=>pat c39 p39 9 c
 |1=>pat cCb pCb 7 c
 |_=>pat cItf pItf 5 c
def countsK (k:Nat) (n:Nat) (check:Bool):Bool:=match k with
 |0=>counts 9 1 1000 n check
 |1=>counts 7 0 998 n check
 |_=>countsItf n
def compK (k:Nat) (l:List UInt8) (check:Bool):List UInt8×Int:=match k with
 |0=>comp39 l check
 |1=>compCb l check
 |_=>compItf l check
def drawK (k:Nat) (l:List UInt8):List UInt8:=match k with
 |0=>Lib.join (l.map fun c=>(pat c39 p39 9 c).1) [110]
 |1=>Lib.join (l.map fun c=>(pat cCb pCb 7 c).1) [110]
 |_=>drawItf l
def readK (k:Nat) (e:List UInt8):List UInt8×Int:=match k with
 |0=>read c39 p39 [42] Cd.syms 9 e
 |1=>read cCb pCb eCb dCb 7 e
 |_=>readItf e
def textK (k:Nat) (l:List UInt8) (check:Bool):List UInt8:=match k with
 |0=>text39 l check
 |1=>textCb l check
 |_=>textItf l check
def inRng (ws:List Int):Bool:=ws.all fun x=>decide (1<=x)&&decide (x<=65536)
def lo (ws:List Int):Int:=ws.foldl min (ws.getD 0 0)
def hi (ws:List Int):Int:=ws.foldl max (ws.getD 0 0)
def isWide (ws:List Int) (x:Int):Bool:=decide (lo ws+hi ws<2*x)
def leastWide (ws:List Int) (l:List Int):Int:=l.foldl (fun a x=>if isWide ws x then min a x else a) (hi ws)
def mostNarrow (ws:List Int) (l:List Int):Int:=l.foldl (fun a x=>if isWide ws x then a else max a x) (lo ws)
def wide (ws:List Int):List Bool×Int:=
 if ws=[]then([],5)
 else if inRng ws=false then([],3)
 else if 2*hi ws<3*lo ws then(ws.map fun _=>false,0)
 else if 2*leastWide ws ws<3*mostNarrow ws ws then([],18)
 else(ws.map (isWide ws),0)
def elems (l:List Bool):List UInt8:=l.map fun b=>if b then 119 else 110
def decK (k:Nat) (ws:List Int) (check:Bool):List UInt8×Int:=
 if countsK k ws.length check=false then([],7)
 else if(wide ws).2≠0 then([],(wide ws).2)
 else if(readK k (elems (wide ws).1)).2≠0 then([],(readK k (elems (wide ws).1)).2)
 else if check=true∧compK k (textK k (readK k (elems (wide ws).1)).1 check) true≠((readK k (elems (wide ws).1)).1,0)then([],8)
 else(textK k (readK k (elems (wide ws).1)).1 check,0)
def dec (kind:Int) (ws:List Int) (check:Bool):List UInt8×Int:=
 if kind=5 then decK 0 ws check else if kind=6 then decK 1 ws check else if kind=7 then decK 2 ws check else([],1)
def bits (e:List UInt8):List Bool:=e.map fun c=>c==119
def patB (k:Nat) (c:UInt8):List Bool×Int:=if(patK k c).2 then(bits (patK k c).1,0)else([],6)
def rep (c:UInt8):List UInt8:=
 if c=0 then [37,85]
 else if c<=26 then [36,64+c]
 else if c<=31 then [37,38+c]
 else if 33<=c∧c<=44 then [47,32+c]
 else if c=47 then [47,79]
 else if c=58 then [47,90]
 else if 59<=c∧c<=63 then [37,11+c]
 else if c=64 then [37,86]
 else if 91<=c∧c<=95 then [37,c-16]
 else if c=96 then [37,87]
 else if 97<=c∧c<=122 then [43,c-32]
 else if 123<=c∧c<=126 then [37,c-43]
 else if c=127 then [37,84]
 else [c]
end Tw
namespace Rn
def runsGo:Bool->Nat->List Bool->List Nat
 |_,n,[]=>[n]
 |c,n,b::r=>if b=c then runsGo c (n+1) r else n::runsGo b 1 r
def core (s:List Bool):List Bool:=(s.drop (Ea.ldg s)).take (s.length-Ea.trl s-Ea.ldg s)
def widthsN (s:List Bool):List Nat:=match core s with
 | []=>[]
 |b::r=>runsGo b 1 r
def widths (s:List Bool):List Int:=(widthsN s).map fun(n:Nat)=>(n:Int)
def mods:Bool->List Int->List Bool
 |_,[]=>[]
 |b,x::r=>List.replicate x.toNat b++mods (!b) r
def sum (ws:List Int):Int:=ws.foldl (·+·) 0
def modules (ws:List Int):List Bool×Int:=
 if ws.length=0 then([],5)else if ws.length%2=0 then([],7)else if Tw.inRng ws=false then([],3)else if 65536<sum ws then([],4)else(mods true ws,0)
def gcdGo:Nat->List Int->Int
 |g,[]=>(g:Int)
 |g,x::r=>if x<1 then 0 else gcdGo (Nat.gcd g x.toNat) r
def unit (ws:List Int):Int:=gcdGo 0 ws
def need (s t:Int) (m w:Int):Int:=s*m-t*w
def leastGo (s t:Int):Nat->Nat->Int->List Int->List Int->Nat
 |_,b,_,[],_=>b
 |_,b,_,_,[]=>b
 |i,b,v,m::ms,w::ws=>if need s t m w<v then leastGo s t (i+1) i (need s t m w) ms ws else leastGo s t (i+1) b v ms ws
def least (s t:Int) (ms ws:List Int):Nat:=leastGo s t 1 0 (need s t (ms.getD 0 0) (ws.getD 0 0)) (ms.drop 1) (ws.drop 1)
def give (s t:Int) (ws:List Int):Nat->List Int->List Int
 |0,ms=>ms
 |n+1,ms=>give s t ws n (ms.set (least s t ms ws) (ms.getD (least s t ms ws) 0+1))
def quant (ws:List Int) (t:Int):List Int×Int:=
 if ws.length=0 then([],5)else if 65536<ws.length then([],4)else if Tw.inRng ws=false∨t<ws.length∨65536<t then([],3)
 else(give (sum ws) t ws (t.toNat-ws.length) (List.replicate ws.length 1),0)
theorem runsGo_app (c:Bool):∀(n:Nat) (k:Nat) (r:List Bool),runsGo c n (List.replicate k c++r)=runsGo c (n+k) r
 |n,0,r=>rfl
 |n,k+1,r=>by rw[N5,J3,runsGo,D0 rfl,runsGo_app c (n+1) k r];congr 1;omega
theorem leastGo_at (s t:Int):∀(ms ws:List Int) (i b:Nat) (v:Int),ms.length=ws.length->
 (leastGo s t i b v ms ws=b∧(∀(k:Nat) (m w:Int),ms[k]? =some m->ws[k]? =some w->v<=need s t m w))∨
 (∃(k:Nat) (m w:Int),leastGo s t i b v ms ws=i+k∧ms[k]? =some m∧ws[k]? =some w∧need s t m w<v∧(∀(j:Nat) (m' w':Int),ms[j]? =some m'->ws[j]? =some w'->need s t m w<=need s t m' w')∧∀(j:Nat) (m' w':Int),j<k->ms[j]? =some m'->ws[j]? =some w'->need s t m w<need s t m' w')
 | [],ws,i,b,v,h=>.inl ⟨rfl,fun k m w hm=>by simp at hm⟩
 |m::ms,[],i,b,v,h=>by cases h
 |m::ms,w::ws,i,b,v,h=>by
  have hl:ms.length=ws.length:=M5;rw[leastGo];by_cases hc:need s t m w<v
  ·rw[D0 hc];right;rcases leastGo_at s t ms ws (i+1) i (need s t m w) hl with⟨h1,h2⟩|⟨k,m',w',h1,h2,h3,h4,h5,h6⟩
   ·refine⟨0,m,w,by rw[h1];rfl,rfl,rfl,hc,?_,fun j _ _ hj=>by omega⟩
    intro j m' w' hm hw
    cases j with
    |zero=>simp at hm hw;subst hm hw;exact Int.le_refl _
    |succ j=>exact h2 j m' w' T8 YA
   ·refine⟨k+1,m',w',by rw[h1];omega,by simpa using h2,by simpa using h3,by omega,?_,?_⟩
    ·intro j a c hm hw
     cases j with
     |zero=>simp at hm hw;subst hm hw;omega
     |succ j=>exact h5 j a c T8 YA
    ·intro j a c hj hm hw
     cases j with
     |zero=>simp at hm hw;subst hm hw;exact h4
     |succ j=>exact h6 j a c B0 T8 YA
  ·rw[C0 hc];rcases leastGo_at s t ms ws (i+1) b v hl with⟨h1,h2⟩|⟨k,m',w',h1,h2,h3,h4,h5,h6⟩
   ·left
    refine⟨h1,fun j a c hm hw=> ?_⟩
    cases j with
    |zero=>simp at hm hw;subst hm hw;omega
    |succ j=>exact h2 j a c T8 YA
   ·right;refine⟨k+1,m',w',by rw[h1];omega,by simpa using h2,by simpa using h3,h4,?_,?_⟩
    ·intro j a c hm hw
     cases j with
     |zero=>simp at hm hw;subst hm hw;omega
     |succ j=>exact h5 j a c T8 YA
    ·intro j a c hj hm hw
     cases j with
     |zero=>simp at hm hw;subst hm hw;omega
     |succ j=>exact h6 j a c B0 T8 YA
theorem least_is {s t:Int} {ms ws:List Int} (hl:ms.length=ws.length) {k:Nat} {m w:Int} (hm:ms[k]? =some m) (hw:ws[k]? =some w)
 (h1:∀(j:Nat) (m' w':Int),ms[j]? =some m'->ws[j]? =some w'->need s t m w<=need s t m' w') (h2:∀(j:Nat) (m' w':Int),j<k->ms[j]? =some m'->ws[j]? =some w'->need s t m w<need s t m' w'):least s t ms ws=k:=by
 cases ms with
 |nil=>simp at hm
 |cons m0 ms=>
  cases ws with
  |nil=>cases hl
  |cons w0 ws=>
   have hl':ms.length=ws.length:=(by simpa using hl);unfold least;simp only[TZ,VC,R5];rcases leastGo_at s t ms ws 1 0 (need s t m0 w0) hl' with⟨h3,h4⟩|⟨j,m',w',h3,h4,h5,h6,h7,h8⟩
   ·rw[h3]
    cases k with
    |zero=>rfl
    |succ k=>have a:=h2 0 m0 w0 B0 rfl rfl;have b:=h4 k m w T8 YA;omega
   ·rw[h3]
    cases k with
    |zero=>simp at hm hw;subst hm hw;have:=h1 (j+1) m' w' OA OB;omega
    |succ k=>have hm':ms[k]? =some m:=T8;have hw':ws[k]? =some w:=YA;rcases JY j k with hjk|hjk|hjk;(·have a:=h2 (j+1) m' w' B0 OA OB;have b:=h7 k m w hm' hw';omega);(·omega);·have a:=h8 k m w hjk hm' hw';have b:=h1 (j+1) m' w' OA OB;omega
end Rn
namespace Cc
def pats:List (List Int):=[[2,1,2,2,2,2],[2,2,2,1,2,2],[2,2,2,2,2,1],[1,2,1,2,2,3],[1,2,1,3,2,2],[1,3,1,2,2,2],[1,2,2,2,1,3],[1,2,2,3,1,2],[1,3,2,2,1,2],[2,2,1,2,1,3],[2,2,1,3,1,2],[2,3,1,2,1,2],[1,1,2,2,3,2],[1,2,2,1,3,2],[1,2,2,2,3,1],[1,1,3,2,2,2],[1,2,3,1,2,2],[1,2,3,2,2,1],[2,2,3,2,1,1],[2,2,1,1,3,2],[2,2,1,2,3,1],[2,1,3,2,1,2],[2,2,3,1,1,2],[3,1,2,1,3,1],[3,1,1,2,2,2],[3,2,1,1,2,2],[3,2,1,2,2,1],[3,1,2,2,1,2],[3,2,2,1,1,2],[3,2,2,2,1,1],[2,1,2,1,2,3],[2,1,2,3,2,1],[2,3,2,1,2,1],[1,1,1,3,2,3],[1,3,1,1,2,3],[1,3,1,3,2,1],[1,1,2,3,1,3],[1,3,2,1,1,3],[1,3,2,3,1,1],[2,1,1,3,1,3],[2,3,1,1,1,3],[2,3,1,3,1,1],[1,1,2,1,3,3],[1,1,2,3,3,1],[1,3,2,1,3,1],[1,1,3,1,2,3],[1,1,3,3,2,1],[1,3,3,1,2,1],[3,1,3,1,2,1],[2,1,1,3,3,1],[2,3,1,1,3,1],[2,1,3,1,1,3],[2,1,3,3,1,1],[2,1,3,1,3,1],[3,1,1,1,2,3],[3,1,1,3,2,1],[3,3,1,1,2,1],[3,1,2,1,1,3],[3,1,2,3,1,1],[3,3,2,1,1,1],[3,1,4,1,1,1],[2,2,1,4,1,1],[4,3,1,1,1,1],[1,1,1,2,2,4],[1,1,1,4,2,2],[1,2,1,1,2,4],[1,2,1,4,2,1],[1,4,1,1,2,2],[1,4,1,2,2,1],[1,1,2,2,1,4],[1,1,2,4,1,2],[1,2,2,1,1,4],[1,2,2,4,1,1],[1,4,2,1,1,2],[1,4,2,2,1,1],[2,4,1,2,1,1],[2,2,1,1,1,4],[4,1,3,1,1,1],[2,4,1,1,1,2],[1,3,4,1,1,1],[1,1,1,2,4,2],[1,2,1,1,4,2],[1,2,1,2,4,1],[1,1,4,2,1,2],[1,2,4,1,1,2],[1,2,4,2,1,1],[4,1,1,2,1,2],[4,2,1,1,1,2],[4,2,1,2,1,1],[2,1,2,1,4,1],[2,1,4,1,2,1],[4,1,2,1,2,1],[1,1,1,1,4,3],[1,1,1,3,4,1],[1,3,1,1,4,1],[1,1,4,1,1,3],[1,1,4,3,1,1],[4,1,1,1,1,3],[4,1,1,3,1,1],[1,1,3,1,4,1],[1,1,4,1,3,1],[3,1,1,1,4,1],[4,1,1,1,3,1],[2,1,1,4,1,2],[2,1,1,2,1,4],[2,1,1,2,3,2]]
def stopP:List Int:=[2,3,3,1,1,1,2]
def valOf (w:List Int):Option Nat:=pats.findIdx? fun p=>p==w
def valsGo:Nat->List Int->Option (List Int)
 |0,_=>some []
 |n+1,w=>match valOf (w.take 6)with
  |none=>none
  |some v=>(valsGo n (w.drop 6)).map fun l=>(v:Int)::l
def chOf (v:Int) (set:Nat):Int:=if set=0∧64<=v then v-64 else v+32
def stepC (set:Nat) (sh:Bool) (v:Int):Option (Nat×Bool×List Int):=
 if sh then(if 95<v then none else some (set,false,[chOf v (1-set)]))
 else if 102<v then none
 else if v=102 then some (set,false,[256])
 else if set=2∧v<=99 then some (set,false,[48+v/10,48+v%10])
 else if v<=95 then some (set,false,[chOf v set])
 else if v=96 then some (set,false,[258])
 else if v=97 then some (set,false,[257])
 else if v=98 then some (set,true,[])
 else if v=99 then some (2,false,[])
 else if v=100∧set≠1 then some (1,false,[])
 else if v=101∧set≠0 then some (0,false,[])
 else some (set,false,[259])
def runC:Nat->Bool->List Int->List Int->Option (List Int)
 |_,sh,out,[]=>if sh then none else some out
 |set,sh,out,v::r=>match stepC set sh v with
  |none=>none
  |some (s',h',o)=>runC s' h' (out++o) r
def chkGo:Nat->Int->List Int->Int
 |_,s,[]=>s
 |i,s,v::r=>chkGo (i+1) ((s+(i:Int)*v)%103) r
def chk (vs:List Int):Int:=chkGo 0 (vs.getD 0 0) vs
def chars (vs:List Int):List Int×Int:=
 if vs.any (fun v=>decide (v<0) || decide (106<v))then([],3)
 else if vs.length<3 then([],7)
 else if vs.getD 0 0<103∨105<vs.getD 0 0 then([],19)
 else if vs.getD (vs.length-1) 0≠106 then([],20)
 else if vs.getD (vs.length-2) 0≠chk (vs.take (vs.length-2))then([],8)
 else match runC (vs.getD 0 0-103).toNat false [] ((vs.take (vs.length-2)).drop 1)with
  |none=>([],22)
  |some o=>(o,0)
def dec (row:List Bool):List Int×Int:=
 if Rn.core row=[]then([],5)
 else if Ea.ldg row<10∨Ea.trl row<10 then([],9)
 else if(Rn.widths row).length<19∨((Rn.widths row).length-7)%6≠0 then([],7)
 else if(Rn.widths row).drop ((Rn.widths row).length-7)≠stopP then([],20)
 else match valsGo (((Rn.widths row).length-7)/6) (Rn.widths row)with
  |none=>([],18)
  |some vs=>chars (vs++[106])
end Cc
end
section
open Go.RowKit
def Ext (w w':World):Prop:=Below w.heap.size w w'
theorem Ext.refl (w:World):Ext w w:=XE _ _
theorem Ext.trans {a b c:World} (h:Ext a b) (k:Ext b c):Ext a c:=U8 h (Below.mono k (Below.size h))
theorem Ext.alloc {a w:World} (h:Ext a w) (o:Obj):Ext a (w.alloc o):=Below.alloc h (Below.size h) o
theorem Ext.drew {a w:World} (h:Ext a w):Ext a w.drew:=Below.drew h
theorem Ext.size {a w:World} (h:Ext a w):a.heap.size<=w.heap.size:=Below.size h
theorem Ext.cell {a w:World} (h:Ext a w) {p:Addr} (hp:p.block<a.heap.size):w.cell? p=a.cell? p:=Below.cell h hp
theorem Ext.frozen {a w:World} (h:Ext a w) {p:Addr} (hp:p.block<a.heap.size):w.frozen? p=a.frozen? p:=Below.frozen h hp
theorem Ext.setCell {a w:World} (h:Ext a w) {p:Addr} (hp:a.heap.size<=p.block) (u:Value):Ext a (w.setCell p u):=Below.setCell h hp u
theorem Ext.drewN {a w:World} (h:Ext a w) (n:Nat):Ext a (w.drewN n):=⟨h.os,h.tape,h.output,h.size,h.block⟩
structure Zx (w:World)where
 at':World
 ext:Ext w at'
instance (w:World):Nonempty (Zx w):=⟨⟨w,Ext.refl _⟩⟩
theorem Zx.drawn (w:World):∃x:Zx w,{w with drawn:=w.drawn+1}=x.at':=⟨⟨w.drew,(Ext.refl _).drew⟩,rfl⟩
theorem Zu {P:Program} {f:FuncId} {args:Array Value} {w:World} {x:Zx w} {v:Value}
 (h:Calls P f args x.at' fun e w'=>e=.returned v∧Ext x.at' w'):Calls P f args x.at' fun e w''=>e=.returned v∧∃y:Zx w,w''=y.at':=
 h.mono fun _ w' ⟨he,hw⟩=>⟨he,⟨w',x.ext.trans hw⟩,rfl⟩
theorem Z1 {k:IntKind} {a b:Int} (h:a=b):Ending.returned (.int k a)=.returned (.int k b):=by rw[h]
theorem Zm {a b:Bool} (h:a=b):Ending.returned (.bool a)=.returned (.bool b):=by rw[h]
theorem Z8 {a b:ByteArray} (h:a=b):Ending.returned (.string a)=.returned (.string b):=by rw[h]
theorem ZF (s:ByteArray) (k:Nat) (h:k<s.size):s.data.toList.take (k+1)=s.data.toList.take k++[s[k]]:=by rw[V8 M5];rfl
theorem XF (s:ByteArray) (k:Nat) (h:k<s.size):s.data.toList.drop k=s[k]::s.data.toList.drop (k+1):=by rw[C5 M5];rfl
theorem Zd (s:ByteArray):s.data.toList.length=s.size:=SC
theorem YB (s:ByteArray):s.data.toList.drop s.size=[]:=O5 (by rw[Zd];exact K0 _)
theorem Z3 (s:ByteArray):s.data.toList.take s.size=s.data.toList:=X1 (by rw[Zd];exact K0 _)
theorem Z7 (s:ByteArray) (k:Nat):(s.data.toList.drop k).length=s.size-k:=by rw[X2,Zd]
theorem XG (s:ByteArray) (k:Nat) (h:k<=s.size):(s.data.toList.take k).length=k:=by rw[M1,Zd];omega
theorem Zn (s:ByteArray) (k:Nat) (h:k<s.size):s[k]∈s.data.toList:=by have:s[k]=s.data.toList[k]' OC:=rfl;rw[this];exact OD
theorem Zy (s:ByteArray) (n:Nat):(s.extract 0 n).data.toList=s.data.toList.take n:=by rw[Lib.extract_data];simp
theorem ZD (s:ByteArray) (n:Nat):(s.extract n s.size).data.toList=s.data.toList.drop n:=Lib.extract_to_end s n
theorem Z0 (s:ByteArray) (a b:Nat):(s.extract a b).data.toList=(s.data.toList.drop a).take (b-a):=Lib.extract_data s a b
theorem Zf {s:ByteArray} {l:List UInt8} (h:s.data.toList=l):s.size=l.length:=by rw[<-h,Zd]
theorem Zl {a b:ByteArray} (h:a.data.toList=b.data.toList):a=b:=by cases a;cases b;congr 1;exact Array.toList_inj.1 h
theorem Z4 (s:ByteArray):(⟨s.data.toList.toArray⟩:ByteArray)=s:=by cases s;simp
theorem Xe {w w':World} (h:Ext w w':=by repeat(first|exact Ext.refl _|assumption|refine Ext.alloc ?_ _|refine Ext.drew ?_|refine Ext.trans ?_ XH)):Ext w w':=h
theorem Xf {w w':World} (h:Ext w w':=by repeat(first|exact Ext.refl _|assumption|refine Ext.alloc ?_ _|refine Ext.drew ?_|refine Ext.drewN ?_ _|refine Ext.setCell ?_ (K0 _) _|refine Ext.trans ?_ XH)):Ext w w':=h
end
section
open Go.RowKit Go.WideMaps Go.Maps
abbrev Gs.Rule:=Int×Int×Int×UInt8
def Gs.base:List (List UInt8×Gs.Rule):=[([48,48],(1,18,18,0)),([50,48],(0,2,2,0)),([56,48,50,48],(3,1,25,0))]
def Gs.lists:List (List UInt8×Gs.Rule):=[
 ([48,49,32,48,50],(1,14,14,0)),
 ([49,49,32,49,50,32,49,51,32,49,53,32,49,54,32,49,55],(2,6,6,0)),
 ([51,49,48,32,51,49,49,32,51,49,50,32,51,49,51,32,51,49,52,32,51,49,53,32,51,49,54],(0,6,6,53)),
 ([51,50,48,32,51,50,49,32,51,50,50,32,51,50,51,32,51,50,52,32,51,50,53,32,51,50,54,32,51,50,55,32,51,50,56,32,51,50,57],(0,6,6,53)),
 ([51,51,48,32,51,51,49,32,51,51,50,32,51,51,51,32,51,51,52,32,51,51,53,32,51,51,54,32,51,51,55],(0,6,6,53)),
 ([52,49,48,32,52,49,49,32,52,49,50,32,52,49,51,32,52,49,52,32,52,49,53,32,52,49,54,32,52,49,55],(1,13,13,0)),
 ([51,48,32,51,55],(0,1,8,0)),
 ([51,57,48,32,51,57,50],(0,1,15,57)),
 ([49,48,32,50,49,32,50,50,32,50,53,52],(3,1,20,0)),
 ([50,52,48,32,50,52,49,32,50,53,48,32,50,53,49,32,52,48,48,32,52,48,49,32,52,48,51,32,57,48],(3,1,30,0)),
 ([57,49,32,57,50,32,57,51,32,57,52,32,57,53,32,57,54,32,57,55,32,57,56,32,57,57],(3,1,90,0))]
def Gs.words (p:List UInt8×Gs.Rule):List (List UInt8×Gs.Rule):=(Lib.fields p.1).map fun k=>(k,p.2)
def Gs.ents (n:Nat):List (List UInt8×Gs.Rule):=Gs.base++(Gs.lists.take n).flatMap Gs.words
theorem wI (n:Nat) (p:List UInt8×Gs.Rule) (h:Gs.lists[n]? =some p):Gs.ents (n+1)=Gs.ents n++Gs.words p:=by unfold Gs.ents;rw[N6,h,VD];simp
def ZK (r:Gs.Rule):Value:=.agg #[.int .i64 r.1,.int .i64 r.2.1,.int .i64 r.2.2.1,.int .u8 (r.2.2.2.toNat:Int)]
def W8 (r:Gs.Rule):DataW Unit:=.agg [.lit (.int .i64 r.1),.lit (.int .i64 r.2.1),.lit (.int .i64 r.2.2.1),.lit (.int .u8 (r.2.2.2.toNat:Int))]
def A7 (v:Value):Option (DataW Unit×List MemPlace):=match v with
 | .agg ⟨[.int .i64 a,.int .i64 b,.int .i64 c,.int .u8 d]⟩=>some (.agg [.lit (.int .i64 a),.lit (.int .i64 b),.lit (.int .i64 c),.lit (.int .u8 d)],[])
 |_=>none
theorem OE (r:Gs.Rule):A7 (ZK r)=some (W8 r,[]):=rfl
theorem zJ {v:Value} {r:Gs.Rule} {ps:List MemPlace} (h:A7 v=some (W8 r,ps)):v=ZK r:=by
 unfold A7 at h;split at h;·unfold W8 at h;simp only[I2,N3,DataW.agg.injEq,VE,DataW.lit.injEq,Lit.int.injEq,X8,true_and]at h;obtain⟨⟨rfl,rfl,rfl,rfl⟩,_⟩:=h;rfl
 ·simp at h
def Gs.tabOf (l:List (List UInt8×Gs.Rule)):DataW Unit:=l.foldl (fun m p=>m.put (.string p.1) (W8 p.2)) (.map [])
theorem zK (l:List (List UInt8×Gs.Rule)) (p:List UInt8×Gs.Rule):Gs.tabOf (l++[p])=(Gs.tabOf l).put (.string p.1) (W8 p.2):=by simp[Gs.tabOf]
theorem zL (l:List (List UInt8×Gs.Rule)):IsMap (Gs.tabOf l):=by
 unfold Gs.tabOf;have:∀(l:List (List UInt8×Gs.Rule)) (m:DataW Unit),IsMap m->IsMap (l.foldl (fun m p=>m.put (.string p.1) (W8 p.2)) m):=by
  intro l
  induction l with
  |nil=>intro m h;exact h
  |cons p l ih=>intro m h;exact ih _ (h.put _ _)
 exact this l _ isMap_empty
def Gs.get (l:List (List UInt8×Gs.Rule)) (k:List UInt8):Option Gs.Rule:=(l.reverse.find? fun p=>p.1==k).map (·.2)
theorem wJ (l:List (List UInt8×Gs.Rule)) (p:List UInt8×Gs.Rule) (k:List UInt8):Gs.get (l++[p]) k=if p.1=k then some p.2 else Gs.get l k:=by
 unfold Gs.get;rw[T5];simp only[Y8,List.reverse_nil,P5,List.singleton_append,List.find?_cons];by_cases h:p.1=k;·simp[h]
 ·have:(p.1==k)=false:=M5;simp[h,this]
theorem wK (l:List (List UInt8×Gs.Rule)) (k:List UInt8):Maps.has (Gs.tabOf l) (.string k)=(Gs.get l k).isSome∧∀z r,Gs.get l k=some r->(Gs.tabOf l).atKey (.string k) z=W8 r:=by
 have key:∀n (l:List (List UInt8×Gs.Rule)),l.length=n->Maps.has (Gs.tabOf l) (.string k)=(Gs.get l k).isSome∧∀z r,Gs.get l k=some r->(Gs.tabOf l).atKey (.string k) z=W8 r:=by
  intro n
  induction n with
  |zero=>intro l hl;obtain rfl:=L4 hl;exact⟨rfl,fun z r h=>by simp[Gs.get]at h⟩
  |succ n ih=>intro l hl;obtain⟨m,p,rfl⟩:∃m p,l=m++[p]:=⟨l.dropLast,l.getLast (by intro e;rw[e]at hl;simp at hl),(JZ _).symm⟩;have ihm:=ih m (by simpa using hl);rw[zK,wJ];by_cases h:p.1=k;(·rw[D0 h,<-h];refine⟨by rw[has_put_same (zL m) (show WideAt.IsKeyLit (.string _)from trivial)];rfl,fun z r hr=> ?_⟩;simp only[I2]at hr;rw[<-hr];exact atKey_put_same (zL m) (show WideAt.IsKeyLit (.string _)from trivial) _ _);·rw[C0 h];have hne:(Lit.string k)≠ .string p.1:=fun e=>h (by injection e with e;exact e.symm);rw[has_put_other hne];exact⟨ihm.1,fun z r hr=>by rw[atKey_put_other hne];exact ihm.2 z r hr⟩
 exact key l.length l rfl
def Gs.dir:List (List UInt8×Gs.Rule):=Gs.ents 11
theorem wL:∀p∈Gs.lists,p.1.length<=100∧(∀b∈p.1,b.toNat<128)∧(Lib.fields p.1).length<=10∧∀k∈Lib.fields p.1,k.length<=10:=E2
theorem Z2 {w w':World} {n:String} {q:IntKind} {zs:List Int} (h:Lib.TabIs prog w n q zs) (hx:Ext w w'):Lib.TabIs prog w' n q zs:=by
 unfold Lib.TabIs World.var? at h⊢
 cases hg:prog.globalNamed n with
 |none=>rw[hg]at h;simp at h
 |some g=>rw[hg]at h;simp only[Option.bind_some]at h⊢;have hlt:g<w.heap.size:=(by rcases P4 g w.heap.size with hh|hh;(·exact hh);·rw[YC hh]at h;simp at h);rw[hx.block g hlt];exact h
end
end Go.Proofs.YtbngggoccndefaaGreatDoor
section
namespace Go.Proofs
open Go.Shelf
def Tryz.lays170_ren:Go.Shelf.Ren:=⟨fun|170=>60|n=>n,fun|70=>89|3=>3|0=>0|72=>92|37=>90|5=>5|n=>n,fun|n=>n⟩
theorem Tryz.lays170:Go.Proofs.Lays.n170 Tryz.prog Tryz.lays170_ren:= {
 mixed:=B1
 f170:=Tryz.func60.trans (R0 some G0)
 t0:=Tryz.underlying0
 a0:=Tryz.isAgg0
 z0:=Tryz.sizeOf0
 v0:=Tryz.zeroValue0
 t3:=Tryz.underlying3
 a3:=Tryz.isAgg3
 z3:=Tryz.sizeOf3
 v3:=Tryz.zeroValue3
 t37:=Tryz.underlying90
 a37:=Tryz.isAgg90
 z37:=Tryz.sizeOf90
 v37:=Tryz.zeroValue90
 t70:=Tryz.underlying89
 a70:=Tryz.isAgg89
 z70:=Tryz.sizeOf89
 v70:=Tryz.zeroValue89
 t72:=Tryz.underlying92
 a72:=Tryz.isAgg92
 z72:=Tryz.sizeOf92
 v72:=Tryz.zeroValue92}
open Go.RowKit in
theorem Tryz.Builder_Len (B b:Nat) (bs:List Value) (w:World) (h:Lib.IsBuilder 92 5 B b bs w):
 Calls Tryz.prog 60 #[.pointer (some ⟨b,0,none⟩)] w fun e w'=>e=.returned (.int .i64 bs.length)∧w'=w:=Any.Builder_Len Tryz.lays170 B b bs w h
def Tryz.lays169_ren:Go.Shelf.Ren:=⟨fun|169=>61|n=>n,fun|70=>89|9=>9|0=>0|72=>92|37=>90|127=>145|3=>3|5=>5|n=>n,fun|n=>n⟩
theorem Tryz.lays169:Go.Proofs.Lays.n169 Tryz.prog Tryz.lays169_ren:= {
 mixed:=B1
 f169:=Tryz.func61.trans (R0 some G0)
 t0:=Tryz.underlying0
 a0:=Tryz.isAgg0
 z0:=Tryz.sizeOf0
 v0:=Tryz.zeroValue0
 t3:=Tryz.underlying3
 a3:=Tryz.isAgg3
 z3:=Tryz.sizeOf3
 v3:=Tryz.zeroValue3
 t9:=Tryz.underlying9
 a9:=Tryz.isAgg9
 z9:=Tryz.sizeOf9
 v9:=Tryz.zeroValue9
 t37:=Tryz.underlying90
 a37:=Tryz.isAgg90
 z37:=Tryz.sizeOf90
 v37:=Tryz.zeroValue90
 t70:=Tryz.underlying89
 a70:=Tryz.isAgg89
 z70:=Tryz.sizeOf89
 v70:=Tryz.zeroValue89
 t72:=Tryz.underlying92
 a72:=Tryz.isAgg92
 z72:=Tryz.sizeOf92
 v72:=Tryz.zeroValue92
 t127:=Tryz.underlying145
 a127:=Tryz.isAgg145
 z127:=Tryz.sizeOf145
 v127:=Tryz.zeroValue145}
theorem Tryz.Builder_Extra_169:Builder.Extra Tryz.prog Tryz.lays169_ren:= {
 sizeBuilder:=B1
 liesBuilder:=B1
 t5:=Tryz.underlying5
 a5:=Tryz.isAgg5
 z5:=Tryz.sizeOf5
 v5:=Tryz.zeroValue5
 infoByte:=B1
 cellsByte:=B1
 sizeByte:=B1
 neB5:=by decide}
open Go.RowKit in
theorem Tryz.Builder_String_any (B b:Nat) (l:List UInt8) (w:World) (h:Lib.IsBuilder 92 5 B b (Lib.byteCells l) w) (hBw:B≤w.heap.size):
 Calls Tryz.prog 61 #[.pointer (some ⟨b,0,none⟩)] w fun e w'=>e=.returned (.string ⟨l.toArray⟩)∧Below B w w':=Any.Builder_String_any Tryz.lays169 Tryz.Builder_Extra_169 B b l w h hBw
def Tryz.lays156_ren:Go.Shelf.Ren:=⟨fun|156=>182|165=>178|166=>59|169=>61|240=>101|241=>240|276=>163|277=>267|n=>n,fun|31=>141|9=>9|3=>3|4=>4|0=>0|20=>20|72=>92|76=>95|70=>89|37=>90|75=>94|127=>145|164=>202|5=>5|80=>98|n=>n,fun|n=>n⟩
theorem Tryz.lays156:Go.Proofs.Lays.n156 Tryz.prog Tryz.lays156_ren:= {
 mixed:=B1
 f156:=Tryz.func182.trans (R0 some G0)
 f165:=Tryz.func178.trans (R0 some G0)
 f166:=Tryz.func59.trans (R0 some G0)
 f169:=Tryz.func61.trans (R0 some G0)
 f240:=Tryz.func101.trans (R0 some G0)
 f241:=Tryz.func240.trans (R0 some G0)
 f276:=Tryz.func163.trans (R0 some G0)
 f277:=Tryz.func267.trans (R0 some G0)
 t0:=Tryz.underlying0
 a0:=Tryz.isAgg0
 z0:=Tryz.sizeOf0
 v0:=Tryz.zeroValue0
 t3:=Tryz.underlying3
 a3:=Tryz.isAgg3
 z3:=Tryz.sizeOf3
 v3:=Tryz.zeroValue3
 t4:=Tryz.underlying4
 a4:=Tryz.isAgg4
 z4:=Tryz.sizeOf4
 v4:=Tryz.zeroValue4
 t9:=Tryz.underlying9
 a9:=Tryz.isAgg9
 z9:=Tryz.sizeOf9
 v9:=Tryz.zeroValue9
 t20:=Tryz.underlying20
 a20:=Tryz.isAgg20
 z20:=Tryz.sizeOf20
 v20:=Tryz.zeroValue20
 t31:=Tryz.underlying141
 a31:=Tryz.isAgg141
 z31:=Tryz.sizeOf141
 v31:=Tryz.zeroValue141
 t37:=Tryz.underlying90
 a37:=Tryz.isAgg90
 z37:=Tryz.sizeOf90
 v37:=Tryz.zeroValue90
 t70:=Tryz.underlying89
 a70:=Tryz.isAgg89
 z70:=Tryz.sizeOf89
 v70:=Tryz.zeroValue89
 t72:=Tryz.underlying92
 a72:=Tryz.isAgg92
 z72:=Tryz.sizeOf92
 v72:=Tryz.zeroValue92
 t75:=Tryz.underlying94
 a75:=Tryz.isAgg94
 z75:=Tryz.sizeOf94
 v75:=Tryz.zeroValue94
 t76:=Tryz.underlying95
 a76:=Tryz.isAgg95
 z76:=Tryz.sizeOf95
 v76:=Tryz.zeroValue95
 t127:=Tryz.underlying145
 a127:=Tryz.isAgg145
 z127:=Tryz.sizeOf145
 v127:=Tryz.zeroValue145
 t164:=Tryz.underlying202
 a164:=Tryz.isAgg202
 z164:=Tryz.sizeOf202
 v164:=Tryz.zeroValue202}
theorem Tryz.Builder_Extra_156:Builder.Extra Tryz.prog Tryz.lays156_ren:= {
 sizeBuilder:=B1
 liesBuilder:=B1
 t5:=Tryz.underlying5
 a5:=Tryz.isAgg5
 z5:=Tryz.sizeOf5
 v5:=Tryz.zeroValue5
 infoByte:=B1
 cellsByte:=B1
 sizeByte:=B1
 neB5:=by decide}
open Go.RowKit in
theorem Tryz.strings_Join (bk o c:Nat) (xs:List ByteArray) (sep:ByteArray) (w:World) (hcells:∀(j:Nat) x,xs[j]? =some x→w.cell? ⟨bk,o+j,none⟩=some (.string x)) (hbk:bk<w.heap.size) (hN:xs.length≤140737488355328) (hcap:xs.length≤c) (hlen:(Lib.join (xs.map (·.data.toList)) sep.data.toList).length≤140737488355328):
 Calls Tryz.prog 182 #[.slice (some ⟨bk,o,none⟩) xs.length c,.string sep] w fun e w'=>e=.returned (.string ⟨(Lib.join (xs.map (·.data.toList)) sep.data.toList).toArray⟩)∧Below w.heap.size w w':=Any.strings_Join Tryz.lays156 Tryz.Builder_Extra_156 bk o c xs sep w hcells hbk hN hcap hlen
def Tryz.lays137_ren:Go.Shelf.Ren:=⟨fun|137=>56|217=>96|266=>161|n=>n,fun|9=>9|5=>5|3=>3|n=>n,fun|n=>n⟩
theorem Tryz.lays137:Go.Proofs.Lays.n137 Tryz.prog Tryz.lays137_ren:= {
 mixed:=B1
 f137:=Tryz.func56.trans (R0 some G0)
 f217:=Tryz.func96.trans (R0 some G0)
 f266:=Tryz.func161.trans (R0 some G0)
 t3:=Tryz.underlying3
 a3:=Tryz.isAgg3
 z3:=Tryz.sizeOf3
 v3:=Tryz.zeroValue3
 t5:=Tryz.underlying5
 a5:=Tryz.isAgg5
 z5:=Tryz.sizeOf5
 v5:=Tryz.zeroValue5
 t9:=Tryz.underlying9
 a9:=Tryz.isAgg9
 z9:=Tryz.sizeOf9
 v9:=Tryz.zeroValue9}
open Go.RowKit in
theorem Tryz.strings_IndexByte (s:ByteArray) (c:Int) (w:World):
 Calls Tryz.prog 56 #[.string s,.int .u8 c] w fun e w'=>e=.returned (.int .i64 (Lib.indexByte s.data.toList c.toNat.toUInt8))∧w'=w:=Any.strings_IndexByte Tryz.lays137 s c w
def Tryz.lays171_ren:Go.Shelf.Ren:=⟨fun|171=>341|243=>342|246=>343|283=>344|284=>345|285=>346|286=>347|129=>349|317=>348|318=>350|319=>351|320=>352|337=>353|338=>354|n=>n,fun|3=>3|9=>9|2=>2|4=>4|171=>374|0=>0|53=>263|37=>90|5=>5|173=>377|212=>380|51=>257|20=>20|213=>381|46=>206|232=>384|233=>385|n=>n,fun|17=>4|18=>5|19=>6|n=>n⟩
theorem Tryz.lays171:Go.Proofs.Lays.n171 Tryz.prog Tryz.lays171_ren:= {
 mixed:=B1
 f129:=Tryz.func349.trans (R0 some G0)
 f171:=Tryz.func341.trans (R0 some G0)
 f243:=Tryz.func342.trans (R0 some G0)
 f246:=Tryz.func343.trans (R0 some G0)
 f283:=Tryz.func344.trans (R0 some G0)
 f284:=Tryz.func345.trans (R0 some G0)
 f285:=Tryz.func346.trans (R0 some G0)
 f286:=Tryz.func347.trans (R0 some G0)
 f317:=Tryz.func348.trans (R0 some G0)
 f318:=Tryz.func350.trans (R0 some G0)
 f319:=Tryz.func351.trans (R0 some G0)
 f320:=Tryz.func352.trans (R0 some G0)
 f337:=Tryz.func353.trans (R0 some G0)
 f338:=Tryz.func354.trans (R0 some G0)
 t0:=Tryz.underlying0
 a0:=Tryz.isAgg0
 z0:=Tryz.sizeOf0
 v0:=Tryz.zeroValue0
 t2:=Tryz.underlying2
 a2:=Tryz.isAgg2
 z2:=Tryz.sizeOf2
 v2:=Tryz.zeroValue2
 t3:=Tryz.underlying3
 a3:=Tryz.isAgg3
 z3:=Tryz.sizeOf3
 v3:=Tryz.zeroValue3
 t4:=Tryz.underlying4
 a4:=Tryz.isAgg4
 z4:=Tryz.sizeOf4
 v4:=Tryz.zeroValue4
 t5:=Tryz.underlying5
 a5:=Tryz.isAgg5
 z5:=Tryz.sizeOf5
 v5:=Tryz.zeroValue5
 t9:=Tryz.underlying9
 a9:=Tryz.isAgg9
 z9:=Tryz.sizeOf9
 v9:=Tryz.zeroValue9
 t20:=Tryz.underlying20
 a20:=Tryz.isAgg20
 z20:=Tryz.sizeOf20
 v20:=Tryz.zeroValue20
 t37:=Tryz.underlying90
 a37:=Tryz.isAgg90
 z37:=Tryz.sizeOf90
 v37:=Tryz.zeroValue90
 t46:=Tryz.underlying206
 a46:=Tryz.isAgg206
 z46:=Tryz.sizeOf206
 v46:=Tryz.zeroValue206
 t51:=Tryz.underlying257
 a51:=Tryz.isAgg257
 z51:=Tryz.sizeOf257
 v51:=Tryz.zeroValue257
 t53:=Tryz.underlying263
 a53:=Tryz.isAgg263
 z53:=Tryz.sizeOf263
 v53:=Tryz.zeroValue263
 t171:=Tryz.underlying374
 a171:=Tryz.isAgg374
 z171:=Tryz.sizeOf374
 v171:=Tryz.zeroValue374
 t173:=Tryz.underlying377
 a173:=Tryz.isAgg377
 z173:=Tryz.sizeOf377
 v173:=Tryz.zeroValue377
 t212:=Tryz.underlying380
 a212:=Tryz.isAgg380
 z212:=Tryz.sizeOf380
 v212:=Tryz.zeroValue380
 t213:=Tryz.underlying381
 a213:=Tryz.isAgg381
 z213:=Tryz.sizeOf381
 t232:=Tryz.underlying384
 a232:=Tryz.isAgg384
 z232:=Tryz.sizeOf384
 v232:=Tryz.zeroValue384
 t233:=Tryz.underlying385
 a233:=Tryz.isAgg385
 z233:=Tryz.sizeOf385
 v233:=Tryz.zeroValue385
 g17:=B1
 g18:=B1
 g19:=by kernel_rfl}
open Go.RowKit Go.Sort Go.Lib in
theorem Tryz.strconv_Itoa_small (i:Nat) (hi:i<100) (w:World):
 Calls Tryz.prog 341 #[.int .i64 i] w fun e w'=>e=.returned (.string ⟨(Lib.decDigits i).toArray⟩)∧w'=w:=Any.strconv_Itoa_small Tryz.lays171 i hi w
def Tryz.lays99_ren:Go.Shelf.Ren:=⟨fun|99=>177|206=>159|n=>n,fun|9=>9|4=>4|3=>3|n=>n,fun|n=>n⟩
theorem Tryz.lays99:Go.Proofs.Lays.n99 Tryz.prog Tryz.lays99_ren:= {
 mixed:=B1
 f99:=Tryz.func177.trans (R0 some G0)
 f206:=Tryz.func159.trans (R0 some G0)
 t3:=Tryz.underlying3
 a3:=Tryz.isAgg3
 z3:=Tryz.sizeOf3
 v3:=Tryz.zeroValue3
 t4:=Tryz.underlying4
 a4:=Tryz.isAgg4
 z4:=Tryz.sizeOf4
 v4:=Tryz.zeroValue4
 t9:=Tryz.underlying9
 a9:=Tryz.isAgg9
 z9:=Tryz.sizeOf9
 v9:=Tryz.zeroValue9}
open Go.RowKit Go.Lib in
theorem Tryz.strings_HasPrefix (s p:ByteArray) (w:World):
 Calls Tryz.prog 177 #[.string s,.string p] w fun e w'=>e=.returned (.bool (Lib.hasPrefix s.data.toList p.data.toList))∧w'=w:=Any.strings_HasPrefix Tryz.lays99 s p w
def Tryz.lays100_ren:Go.Shelf.Ren:=⟨fun|100=>253|207=>273|n=>n,fun|9=>9|4=>4|3=>3|n=>n,fun|n=>n⟩
theorem Tryz.lays100:Go.Proofs.Lays.n100 Tryz.prog Tryz.lays100_ren:= {
 mixed:=B1
 f100:=Tryz.func253.trans (R0 some G0)
 f207:=Tryz.func273.trans (R0 some G0)
 t3:=Tryz.underlying3
 a3:=Tryz.isAgg3
 z3:=Tryz.sizeOf3
 v3:=Tryz.zeroValue3
 t4:=Tryz.underlying4
 a4:=Tryz.isAgg4
 z4:=Tryz.sizeOf4
 v4:=Tryz.zeroValue4
 t9:=Tryz.underlying9
 a9:=Tryz.isAgg9
 z9:=Tryz.sizeOf9
 v9:=Tryz.zeroValue9}
open Go.RowKit Go.Lib in
theorem Tryz.strings_HasSuffix (s p:ByteArray) (w:World) (hs:s.size≤9223372036854775807):
 Calls Tryz.prog 253 #[.string s,.string p] w fun e w'=>e=.returned (.bool (Lib.hasSuffix s.data.toList p.data.toList))∧w'=w:=Any.strings_HasSuffix Tryz.lays100 s p w hs
def Tryz.lays157_ren:Go.Shelf.Ren:=⟨fun|157=>93|229=>157|199=>158|261=>229|311=>264|312=>265|n=>n,fun|9=>9|31=>141|3=>3|5=>5|4=>4|119=>195|0=>0|40=>197|152=>254|21=>21|154=>256|51=>257|141=>259|196=>287|193=>284|198=>290|49=>288|194=>285|201=>293|226=>316|46=>206|227=>317|n=>n,fun|0=>0|6=>1|n=>n⟩
theorem Tryz.lays157:Go.Proofs.Lays.n157 Tryz.prog Tryz.lays157_ren:= {
 mixed:=B1
 f157:=Tryz.func93.trans (R0 some G0)
 f199:=Tryz.func158.trans (R0 some G0)
 f229:=Tryz.func157.trans (R0 some G0)
 f261:=Tryz.func229.trans (R0 some G0)
 f311:=Tryz.func264.trans (R0 some G0)
 f312:=Tryz.func265.trans (R0 some G0)
 t0:=Tryz.underlying0
 a0:=Tryz.isAgg0
 z0:=Tryz.sizeOf0
 v0:=Tryz.zeroValue0
 t3:=Tryz.underlying3
 a3:=Tryz.isAgg3
 z3:=Tryz.sizeOf3
 v3:=Tryz.zeroValue3
 t4:=Tryz.underlying4
 a4:=Tryz.isAgg4
 z4:=Tryz.sizeOf4
 v4:=Tryz.zeroValue4
 t5:=Tryz.underlying5
 a5:=Tryz.isAgg5
 z5:=Tryz.sizeOf5
 v5:=Tryz.zeroValue5
 t9:=Tryz.underlying9
 a9:=Tryz.isAgg9
 z9:=Tryz.sizeOf9
 v9:=Tryz.zeroValue9
 t21:=Tryz.underlying21
 a21:=Tryz.isAgg21
 z21:=Tryz.sizeOf21
 v21:=Tryz.zeroValue21
 t31:=Tryz.underlying141
 a31:=Tryz.isAgg141
 z31:=Tryz.sizeOf141
 v31:=Tryz.zeroValue141
 t40:=Tryz.underlying197
 a40:=Tryz.isAgg197
 z40:=Tryz.sizeOf197
 v40:=Tryz.zeroValue197
 t46:=Tryz.underlying206
 a46:=Tryz.isAgg206
 z46:=Tryz.sizeOf206
 v46:=Tryz.zeroValue206
 t49:=Tryz.underlying288
 a49:=Tryz.isAgg288
 z49:=Tryz.sizeOf288
 v49:=Tryz.zeroValue288
 t51:=Tryz.underlying257
 a51:=Tryz.isAgg257
 z51:=Tryz.sizeOf257
 v51:=Tryz.zeroValue257
 t119:=Tryz.underlying195
 a119:=Tryz.isAgg195
 z119:=Tryz.sizeOf195
 t141:=Tryz.underlying259
 a141:=Tryz.isAgg259
 z141:=Tryz.sizeOf259
 v141:=Tryz.zeroValue259
 t152:=Tryz.underlying254
 a152:=Tryz.isAgg254
 z152:=Tryz.sizeOf254
 v152:=Tryz.zeroValue254
 t154:=Tryz.underlying256
 a154:=Tryz.isAgg256
 z154:=Tryz.sizeOf256
 v154:=Tryz.zeroValue256
 t193:=Tryz.underlying284
 a193:=Tryz.isAgg284
 z193:=Tryz.sizeOf284
 v193:=Tryz.zeroValue284
 t194:=Tryz.underlying285
 a194:=Tryz.isAgg285
 z194:=Tryz.sizeOf285
 v194:=Tryz.zeroValue285
 t196:=Tryz.underlying287
 a196:=Tryz.isAgg287
 z196:=Tryz.sizeOf287
 v196:=Tryz.zeroValue287
 t198:=Tryz.underlying290
 a198:=Tryz.isAgg290
 z198:=Tryz.sizeOf290
 v198:=Tryz.zeroValue290
 t201:=Tryz.underlying293
 a201:=Tryz.isAgg293
 z201:=Tryz.sizeOf293
 v201:=Tryz.zeroValue293
 t226:=Tryz.underlying316
 a226:=Tryz.isAgg316
 z226:=Tryz.sizeOf316
 v226:=Tryz.zeroValue316
 t227:=Tryz.underlying317
 a227:=Tryz.isAgg317
 z227:=Tryz.sizeOf317
 v227:=Tryz.zeroValue317
 g0:=B1
 g6:=by kernel_rfl}
open Go.RowKit Go.Lib in
theorem Tryz.strings_Fields (s:ByteArray) (w:World) (hs:s.size<4294967281) (hascii:∀(j:Nat) b,s.data.toList[j]? =some b→b.toNat<128) (htab:Lib.TabIs Tryz.prog w "strings.asciiSpace" .u8 Lib.asciiSpaceTab):
 Calls Tryz.prog 93 #[.string s] w fun e w'=>
  e=.returned (.slice (some ⟨w.heap.size,0,none⟩) (Lib.fields s.data.toList).length (Lib.fields s.data.toList).length)∧w'=w.alloc (.cells ((Lib.fields s.data.toList).map fun l=>Value.string ⟨l.toArray⟩).toArray 9):=Any.strings_Fields Tryz.lays157 G0 G0 s w hs hascii htab
def Tryz.lays105_ren:Go.Shelf.Ren:=⟨fun|105=>109|212=>176|99=>177|165=>178|166=>59|170=>60|169=>61|263=>238|264=>239|206=>159|240=>101|241=>240|276=>163|277=>267|n=>n,fun|9=>9|3=>3|4=>4|20=>20|0=>0|46=>206|109=>207|5=>5|72=>92|76=>95|51=>257|146=>261|53=>263|148=>264|70=>89|37=>90|75=>94|127=>145|164=>202|80=>98|n=>n,fun|n=>n⟩
theorem Tryz.lays105:Go.Proofs.Lays.n105 Tryz.prog Tryz.lays105_ren:= {
 mixed:=B1
 f99:=Tryz.func177.trans (R0 some G0)
 f105:=Tryz.func109.trans (R0 some G0)
 f165:=Tryz.func178.trans (R0 some G0)
 f166:=Tryz.func59.trans (R0 some G0)
 f169:=Tryz.func61.trans (R0 some G0)
 f170:=Tryz.func60.trans (R0 some G0)
 f206:=Tryz.func159.trans (R0 some G0)
 f212:=Tryz.func176.trans (R0 some G0)
 f240:=Tryz.func101.trans (R0 some G0)
 f241:=Tryz.func240.trans (R0 some G0)
 f263:=Tryz.func238.trans (R0 some G0)
 f264:=Tryz.func239.trans (R0 some G0)
 f276:=Tryz.func163.trans (R0 some G0)
 f277:=Tryz.func267.trans (R0 some G0)
 t0:=Tryz.underlying0
 a0:=Tryz.isAgg0
 z0:=Tryz.sizeOf0
 v0:=Tryz.zeroValue0
 t3:=Tryz.underlying3
 a3:=Tryz.isAgg3
 z3:=Tryz.sizeOf3
 v3:=Tryz.zeroValue3
 t4:=Tryz.underlying4
 a4:=Tryz.isAgg4
 z4:=Tryz.sizeOf4
 v4:=Tryz.zeroValue4
 t5:=Tryz.underlying5
 a5:=Tryz.isAgg5
 z5:=Tryz.sizeOf5
 v5:=Tryz.zeroValue5
 t9:=Tryz.underlying9
 a9:=Tryz.isAgg9
 z9:=Tryz.sizeOf9
 v9:=Tryz.zeroValue9
 t20:=Tryz.underlying20
 a20:=Tryz.isAgg20
 z20:=Tryz.sizeOf20
 v20:=Tryz.zeroValue20
 t37:=Tryz.underlying90
 a37:=Tryz.isAgg90
 z37:=Tryz.sizeOf90
 v37:=Tryz.zeroValue90
 t46:=Tryz.underlying206
 a46:=Tryz.isAgg206
 z46:=Tryz.sizeOf206
 v46:=Tryz.zeroValue206
 t51:=Tryz.underlying257
 a51:=Tryz.isAgg257
 z51:=Tryz.sizeOf257
 v51:=Tryz.zeroValue257
 t53:=Tryz.underlying263
 a53:=Tryz.isAgg263
 z53:=Tryz.sizeOf263
 v53:=Tryz.zeroValue263
 t70:=Tryz.underlying89
 a70:=Tryz.isAgg89
 z70:=Tryz.sizeOf89
 v70:=Tryz.zeroValue89
 t72:=Tryz.underlying92
 a72:=Tryz.isAgg92
 z72:=Tryz.sizeOf92
 v72:=Tryz.zeroValue92
 t75:=Tryz.underlying94
 a75:=Tryz.isAgg94
 z75:=Tryz.sizeOf94
 v75:=Tryz.zeroValue94
 t76:=Tryz.underlying95
 a76:=Tryz.isAgg95
 z76:=Tryz.sizeOf95
 v76:=Tryz.zeroValue95
 t109:=Tryz.underlying207
 a109:=Tryz.isAgg207
 z109:=Tryz.sizeOf207
 v109:=Tryz.zeroValue207
 t127:=Tryz.underlying145
 a127:=Tryz.isAgg145
 z127:=Tryz.sizeOf145
 v127:=Tryz.zeroValue145
 t146:=Tryz.underlying261
 a146:=Tryz.isAgg261
 z146:=Tryz.sizeOf261
 v146:=Tryz.zeroValue261
 t148:=Tryz.underlying264
 a148:=Tryz.isAgg264
 z148:=Tryz.sizeOf264
 v148:=Tryz.zeroValue264
 t164:=Tryz.underlying202
 a164:=Tryz.isAgg202
 z164:=Tryz.sizeOf202
 v164:=Tryz.zeroValue202}
theorem Tryz.Builder_Extra_105:Builder.Extra Tryz.prog Tryz.lays105_ren:= {
 sizeBuilder:=B1
 liesBuilder:=B1
 t5:=Tryz.underlying5
 a5:=Tryz.isAgg5
 z5:=Tryz.sizeOf5
 v5:=Tryz.zeroValue5
 infoByte:=B1
 cellsByte:=B1
 sizeByte:=B1
 neB5:=by decide}
open Go.RowKit Go.Lib in
theorem Tryz.strings_Repeat (s:ByteArray) (c:Nat) (w:World) (hc:c≤9223372036854775807) (hlen:s.size*c≤140737488355328):
 Calls Tryz.prog 109 #[.string s,.int .i64 c] w fun e w'=>e=.returned (.string ⟨(Lib.repeatL s.data.toList c).toArray⟩)∧Below w.heap.size w w':=Any.strings_Repeat Tryz.lays105 Tryz.Builder_Extra_105 s c w hc hlen
def Tryz.lays108_ren:Go.Shelf.Ren:=⟨fun|108=>217|n=>n,fun|28=>43|3=>3|0=>0|4=>4|n=>n,fun|n=>n⟩
theorem Tryz.lays108:Go.Proofs.Lays.n108 Tryz.prog Tryz.lays108_ren:= {
 mixed:=B1
 f108:=Tryz.func217.trans (R0 some G0)
 t0:=Tryz.underlying0
 a0:=Tryz.isAgg0
 z0:=Tryz.sizeOf0
 v0:=Tryz.zeroValue0
 t3:=Tryz.underlying3
 a3:=Tryz.isAgg3
 z3:=Tryz.sizeOf3
 v3:=Tryz.zeroValue3
 t4:=Tryz.underlying4
 a4:=Tryz.isAgg4
 z4:=Tryz.sizeOf4
 v4:=Tryz.zeroValue4
 t28:=Tryz.underlying43
 a28:=Tryz.isAgg43
 z28:=Tryz.sizeOf43
 v28:=Tryz.zeroValue43}
open Go.Lib in
theorem Tryz.slices_Index_int (b off n c:Nat) (zs:List Int) (x:Int) (w:World) (hz:n≤zs.length) (hbig:n≤9223372036854775807) (hc:∀j,j<zs.length→w.cell? ⟨b,off+j,none⟩=some (.int .i64 (zs.getD j 0))):
 Calls Tryz.prog 217 #[.slice (some ⟨b,off,none⟩) n c,.int .i64 x] w fun e w'=>e=.returned (.int .i64 (Lib.idxOf (zs.take n) x))∧w'=w:=Any.slices_Index_int Tryz.lays108 b off n c zs x w hz hbig hc
open Go.Lib in
theorem Tryz.slices_Index_int_empty (a:Option Addr) (c:Nat) (x:Int) (w:World):
 Calls Tryz.prog 217 #[.slice a 0 c,.int .i64 x] w fun e w'=>e=.returned (.int .i64 (Lib.idxOf [] x))∧w'=w:=Any.slices_Index_int_empty Tryz.lays108 a c x w
def Tryz.lays109_ren:Go.Shelf.Ren:=⟨fun|109=>252|n=>n,fun|31=>141|9=>9|3=>3|0=>0|4=>4|n=>n,fun|n=>n⟩
theorem Tryz.lays109:Go.Proofs.Lays.n109 Tryz.prog Tryz.lays109_ren:= {
 mixed:=B1
 f109:=Tryz.func252.trans (R0 some G0)
 t0:=Tryz.underlying0
 a0:=Tryz.isAgg0
 z0:=Tryz.sizeOf0
 v0:=Tryz.zeroValue0
 t3:=Tryz.underlying3
 a3:=Tryz.isAgg3
 z3:=Tryz.sizeOf3
 v3:=Tryz.zeroValue3
 t4:=Tryz.underlying4
 a4:=Tryz.isAgg4
 z4:=Tryz.sizeOf4
 v4:=Tryz.zeroValue4
 t9:=Tryz.underlying9
 a9:=Tryz.isAgg9
 z9:=Tryz.sizeOf9
 v9:=Tryz.zeroValue9
 t31:=Tryz.underlying141
 a31:=Tryz.isAgg141
 z31:=Tryz.sizeOf141
 v31:=Tryz.zeroValue141}
open Go.Lib in
theorem Tryz.slices_Index_string (b off n c:Nat) (zs:List ByteArray) (x:ByteArray) (w:World) (hz:n≤zs.length) (hbig:n≤9223372036854775807) (hc:∀j,j<zs.length→w.cell? ⟨b,off+j,none⟩=some (.string (zs.getD j ByteArray.empty))):
 Calls Tryz.prog 252 #[.slice (some ⟨b,off,none⟩) n c,.string x] w fun e w'=>e=.returned (.int .i64 (Lib.idxOfS (zs.take n) x))∧w'=w:=Any.slices_Index_string Tryz.lays109 b off n c zs x w hz hbig hc
def Tryz.lays113_ren:Go.Shelf.Ren:=⟨fun|113=>107|n=>n,fun|28=>43|3=>3|4=>4|9=>9|20=>20|0=>0|n=>n,fun|n=>n⟩
theorem Tryz.lays113:Go.Proofs.Lays.n113 Tryz.prog Tryz.lays113_ren:= {
 mixed:=B1
 f113:=Tryz.func107.trans (R0 some G0)
 t0:=Tryz.underlying0
 a0:=Tryz.isAgg0
 z0:=Tryz.sizeOf0
 v0:=Tryz.zeroValue0
 t3:=Tryz.underlying3
 a3:=Tryz.isAgg3
 z3:=Tryz.sizeOf3
 v3:=Tryz.zeroValue3
 t4:=Tryz.underlying4
 a4:=Tryz.isAgg4
 z4:=Tryz.sizeOf4
 v4:=Tryz.zeroValue4
 t9:=Tryz.underlying9
 a9:=Tryz.isAgg9
 z9:=Tryz.sizeOf9
 v9:=Tryz.zeroValue9
 t20:=Tryz.underlying20
 a20:=Tryz.isAgg20
 z20:=Tryz.sizeOf20
 v20:=Tryz.zeroValue20
 t28:=Tryz.underlying43
 a28:=Tryz.isAgg43
 z28:=Tryz.sizeOf43
 v28:=Tryz.zeroValue43}
open Go.Lib in
theorem Tryz.slices_Max_int (b off n c:Nat) (zs:List Int) (w:World) (hn:0<n) (hz:n≤zs.length) (hbig:n≤9223372036854775807) (hc:∀j,j<zs.length→w.cell? ⟨b,off+j,none⟩=some (.int .i64 (zs.getD j 0))):
 Calls Tryz.prog 107 #[.slice (some ⟨b,off,none⟩) n c] w fun e w'=>e=.returned (.int .i64 (Lib.maxOf (zs.take n)))∧w'=w:=Any.slices_Max_int Tryz.lays113 b off n c zs w hn hz hbig hc
def Tryz.lays114_ren:Go.Shelf.Ren:=⟨fun|114=>106|n=>n,fun|28=>43|3=>3|4=>4|9=>9|20=>20|0=>0|n=>n,fun|n=>n⟩
theorem Tryz.lays114:Go.Proofs.Lays.n114 Tryz.prog Tryz.lays114_ren:= {
 mixed:=B1
 f114:=Tryz.func106.trans (R0 some G0)
 t0:=Tryz.underlying0
 a0:=Tryz.isAgg0
 z0:=Tryz.sizeOf0
 v0:=Tryz.zeroValue0
 t3:=Tryz.underlying3
 a3:=Tryz.isAgg3
 z3:=Tryz.sizeOf3
 v3:=Tryz.zeroValue3
 t4:=Tryz.underlying4
 a4:=Tryz.isAgg4
 z4:=Tryz.sizeOf4
 v4:=Tryz.zeroValue4
 t9:=Tryz.underlying9
 a9:=Tryz.isAgg9
 z9:=Tryz.sizeOf9
 v9:=Tryz.zeroValue9
 t20:=Tryz.underlying20
 a20:=Tryz.isAgg20
 z20:=Tryz.sizeOf20
 v20:=Tryz.zeroValue20
 t28:=Tryz.underlying43
 a28:=Tryz.isAgg43
 z28:=Tryz.sizeOf43
 v28:=Tryz.zeroValue43}
open Go.Lib in
theorem Tryz.slices_Min_int (b off n c:Nat) (zs:List Int) (w:World) (hn:0<n) (hz:n≤zs.length) (hbig:n≤9223372036854775807) (hc:∀j,j<zs.length→w.cell? ⟨b,off+j,none⟩=some (.int .i64 (zs.getD j 0))):
 Calls Tryz.prog 106 #[.slice (some ⟨b,off,none⟩) n c] w fun e w'=>e=.returned (.int .i64 (Lib.minOf (zs.take n)))∧w'=w:=Any.slices_Min_int Tryz.lays114 b off n c zs w hn hz hbig hc
end Go.Proofs
end
