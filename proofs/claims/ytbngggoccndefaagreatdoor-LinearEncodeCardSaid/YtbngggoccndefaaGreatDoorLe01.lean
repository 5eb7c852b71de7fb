/-
  Laid.
-/
import Derived.Test.YtbngggoccndefaaGreatDoorLe00
import Derived.Test.YtbngggoccndefaaGreatDoorProg
set_option maxHeartbeats 8000000
set_option maxRecDepth 100000
set_option linter.all false
namespace Go.Proofs.Enc
open Go.Proofs.Tryz
section
open Go.RowKit
def Ext(w w':World):Prop:=Below w.heap.size w w'
def Ext.refl(w:World):Ext w w:=YK _ _
def Ext.trans{a b c:World}(h:Ext a b)(k:Ext b c):Ext a c:=O4 h (Below.mono k (Below.size h))
def Ext.alloc{a w:World}(h:Ext a w)(o:Obj):Ext a (w.alloc o):=Below.alloc h (Below.size h) o
def Ext.drew{a w:World}(h:Ext a w):Ext a w.drew:=Below.drew h
def Ext.size{a w:World}(h:Ext a w):a.heap.size<=w.heap.size:=Below.size h
def Ext.cell{a w:World}(h:Ext a w){p:Addr}(hp:p.block<a.heap.size):w.cell? p=a.cell? p:=Below.cell h hp
def Ext.frozen{a w:World}(h:Ext a w){p:Addr}(hp:p.block<a.heap.size):w.frozen? p=a.frozen? p:=Below.frozen h hp
def Ext.setCell{a w:World}(h:Ext a w){p:Addr}(hp:a.heap.size<=p.block)(u:Value):Ext a (w.setCell p u):=Below.setCell h hp u
def Ext.drewN{a w:World}(h:Ext a w)(n:Nat):Ext a (w.drewN n):=⟨h.os,h.tape,h.output,h.size,h.block⟩
structure Zw (w:World)where
 at':World
 ext:Ext w at'
instance (w:World):Nonempty (Zw w):=⟨⟨w,Ext.refl _⟩⟩
def Zw.drawn(w:World):∃x:Zw w,{w with drawn:=w.drawn+1}=x.at':=⟨⟨w.drew,(Ext.refl _).drew⟩,rfl⟩
def Zq{P:Program}{f:FuncId}{args:Array Value}{w:World}{x:Zw w}{v:Value}
 (h:Calls P f args x.at' λe w'=>e=.returned v/\Ext x.at' w'):Calls P f args x.at' λe y8=>e=.returned v/\∃y:Zw w,y8=y.at':=
 h.mono λ_ w' ⟨he,hw⟩=>⟨he,⟨w',x.ext.trans hw⟩,rfl⟩
def Zo{k:IntKind}{a b:Int}(h:a=b):Ending.returned (.int k a)=.returned (.int k b):=by rw[h]
def Zn{a b:Bool}(h:a=b):Ending.returned (.bool a)=.returned (.bool b):=by rw[h]
def ZC{a b:ByteArray}(h:a=b):Ending.returned (.string a)=.returned (.string b):=by rw[h]
def Z1(s:ByteArray)(k:Nat)(h:k<s.size):s.data.toList.take (k+1)=s.data.toList.take k++[s[k]]:=by rw[L9 Y4];rfl
def R8(s:ByteArray)(k:Nat)(h:k<s.size):s.data.toList.drop k=s[k]::s.data.toList.drop (k+1):=by rw[F5 Y4];rfl
def Za(s:ByteArray):s.data.toList.length=s.size:=WG
def V7(s:ByteArray):s.data.toList.drop s.size=[]:=O5 (by rw[Za];exact J0 _)
def Zu(s:ByteArray):s.data.toList.take s.size=s.data.toList:=S1 (by rw[Za];exact J0 _)
def Z7(s:ByteArray)(k:Nat):(s.data.toList.drop k).length=s.size-k:=by rw[X1,Za]
def W7(s:ByteArray)(k:Nat)(h:k<=s.size):(s.data.toList.take k).length=k:=by rw[J1,Za];omega
def Zl(s:ByteArray)(k:Nat)(h:k<s.size):s[k]∈s.data.toList:=by have:s[k]=s.data.toList[k]' WH:=rfl;rw[this];exact YL _
def Zx(s:ByteArray)(n:Nat):(s.extract 0 n).data.toList=s.data.toList.take n:=by rw[Lib.extract_data];simp
def Z8(s:ByteArray)(n:Nat):(s.extract n s.size).data.toList=s.data.toList.drop n:=Lib.extract_to_end s n
def Zr(s:ByteArray)(a b:Nat):(s.extract a b).data.toList=(s.data.toList.drop a).take (b-a):=Lib.extract_data s a b
def Zd{s:ByteArray}{l:List UInt8}(h:s.data.toList=l):s.size=l.length:=by rw[<-h,Za]
def Zi{a b:ByteArray}(h:a.data.toList=b.data.toList):a=b:=by cases a;cases b;congr 1;exact Array.toList_inj.1 h
def Z0(s:ByteArray):(⟨s.data.toList.toArray⟩:ByteArray)=s:=by cases s;simp
def Xe{w w':World}(h:Ext w w':=by repeat(first|exact Ext.refl _|assumption|refine Ext.alloc ?_ _|refine Ext.drew ?_|refine Ext.trans ?_ (by assumption))):Ext w w':=h
def Xf{w w':World}(h:Ext w w':=by repeat(first|exact Ext.refl _|assumption|refine Ext.alloc ?_ _|refine Ext.drew ?_|refine Ext.drewN ?_ _|refine Ext.setCell ?_ (J0 _) _|refine Ext.trans ?_ (by assumption))):Ext w w':=h
end
section
namespace Cd
def dg(c:UInt8):Int:=(c.toNat:Int)-48
def isDig(c:Int):Bool:=decide (48<=c)&&decide (c<=57)
def IP(l:List UInt8):Prop:=∀c∈l,48<=c.toNat/\c.toNat<=57
def syms:List UInt8:=[48,49,50,51,52,53,54,55,56,57,65,66,67,68,69,70,71,72,73,74,75,76,77,78,79,80,81,82,83,84,85,86,87,88,89,90,45,46,32,36,47,43,37]
def Hd(c:UInt8):Int:=Lib.indexByte syms c
def dg_bd{c:UInt8}(h:48<=c.toNat/\c.toNat<=57):0<=dg c/\dg c<=9:=by unfold dg;omega
def Vh{l:List UInt8}(h:IP l)(k:Nat):IP (l.drop k):=λc hc=>h c (X7 hc)
def aDS{l:List UInt8}(h:IP l)(k:Nat):IP (l.take k):=λc hc=>h c (I4 hc)
def gsP:List UInt8->Int×Int
 | []=>(0,3)
 |c::l=>((gsP l).1+(gsP l).2*dg c,4-(gsP l).2)
def gsP_w(l:List UInt8):(gsP l).2=if l.length%2=0 then 3 else 1:=by
 induction l with
 |nil=>rfl
 |cons c l ih=>simp only[gsP,ih,B1];split<;>split<;>omega
def gsP_bd(l:List UInt8)(h:IP l):0<=(gsP l).1/\(gsP l).1<=27*l.length:=by
 induction l with
 |nil=>simp[gsP]
 |cons c l ih=>have h1:=ih (λx hx=>h x (Y1 _ hx));have h2:=dg_bd (h c (C2 ..));have h3:=gsP_w l;simp only[gsP,B1];split at h3<;>rw[h3]<;>omega
def dbl(x:Int):Int:=if 2*x>9 then 2*x-9 else 2*x
def dbl_hi(x:Int)(h:9<x*2):dbl x=x*2-9:=by unfold dbl;rw[G0 C0];omega
def dbl_lo(x:Int)(h:¬9<x*2):dbl x=x*2:=by unfold dbl;rw[D0 C0];omega
def lnP:List UInt8->Int×Bool
 | []=>(0,true)
 |c::l=>((lnP l).1+(if(lnP l).2 then dbl (dg c)else dg c),!(lnP l).2)
def lnP_w(l:List UInt8):(lnP l).2=decide (l.length%2=0):=by
 induction l with
 |nil=>rfl
 |cons c l ih=>simp only[lnP,ih,B1];by_cases h:l.length%2=0;(·have:¬(l.length+1)%2=0:=C0;simp[h,this]);·have:(l.length+1)%2=0:=C0;simp[h,this]
def lnP_bd(l:List UInt8)(h:IP l):0<=(lnP l).1/\(lnP l).1<=9*l.length:=by
 induction l with
 |nil=>simp[lnP]
 |cons c l ih=>have h1:=ih (λx hx=>h x (Y1 _ hx));have h2:=dg_bd (h c (C2 ..));simp only[lnP,B1];unfold dbl;split;(·exact Y7);·omega
def isb:List UInt8->Int
 | []=>0
 |c::l=>isb l+((l.length:Int)+2)*dg c
def permL:List Int:=[1,5,7,6,2,8,3,0,9,4]
def perm(x:Int):Int:=permL.getD x.toNat 0
def permN:Nat->Int->Int
 |0,x=>x
 |n+1,x=>perm (permN n x)
def Jj(a b:Int):Int:=if a<5 then(if b<5 then(a+b)%5 else 5+(a+b-5)%5)else(if b<5 then 5+(a-b)%5 else(a-b+5)%5)
def vh:List UInt8->Int
 | []=>0
 |c::l=>Jj (vh l) (permN (l.length+1) (dg c))
def inv(c:Int):Int:=if c<5 then(5-c)%5 else c
def dmT:List (List UInt8):=[[48,51,49,55,53,57,56,54,52,50],[55,48,57,50,49,53,52,56,54,51],[52,50,48,54,56,55,49,51,53,57],[49,55,53,48,57,56,51,52,50,54],[54,49,50,51,48,52,53,57,55,56],[51,54,55,52,50,48,57,53,56,49],[53,56,54,57,55,50,48,49,51,52],[56,57,52,53,51,54,50,48,49,55],[57,52,51,56,54,49,55,50,48,53],[50,53,56,49,52,51,54,55,57,48]]
def Rr(c x:Int):Int:=dg ((dmT.getD c.toNat []).getD x.toNat 48)
def dm(l:List UInt8):Int:=l.foldl (λc x=>Rr c (dg x)) 0
def i97(l:List UInt8):Int:=l.foldl (λr c=>(10*r+dg c)%97) 0
def i11(l:List UInt8):Int:=l.foldl (λp c=>2*(p+dg c)%11) 0
def c39(l:List UInt8):Int:=(l.map Hd).foldl (·+·) 0
def chr(v:Int):UInt8:=if v=10 then 88 else UInt8.ofNat (48+v.toNat)
def cmp(k:Nat)(l:List UInt8):List UInt8:=
 match k with
 |1=>[chr ((10-(gsP l).1%10)%10)]
 |2=>[chr ((10-(lnP l).1%10)%10)]
 |3=>[chr ((11-isb l%11)%11)]
 |4=>[chr (inv (vh l))]
 |5=>[chr (dm l)]
 |6=>[chr ((98-100*i97 l%97)/10),chr ((98-100*i97 l%97)%10)]
 |7=>[syms.getD (c39 l%43).toNat 48]
 |8=>[chr ((12-i11 l)%11)]
 |_=>[]
def size(k:Nat):Nat:=if k=6 then 2 else 1
def datB(k:Nat)(c:Int):Bool:=if k=7 then decide (0<=Hd c.toNat.toUInt8)else isDig c
def chkB(k:Nat)(c:Int):Bool:=if k=7 then decide (0<=Hd c.toNat.toUInt8)else if k=3\/k=8 then(isDig c || (c==88))else isDig c
def fits(k:Nat)(n:Nat):Bool:=if k=3 then n==10 else decide (size k<n)
def ver(k:Nat)(l:List UInt8):Int:=
 if 4096<l.length then 4
 else if fits k l.length=false then 7
 else if(l.take (l.length-size k)).all (λc=>datB k c.toNat)=false then 6
 else if(l.drop (l.length-size k)).all (λc=>chkB k c.toNat)=false then 6
 else if cmp k (l.take (l.length-size k))=l.drop (l.length-size k)then 0 else 8
def verI(k:Int)(l:List UInt8):Int:=if k<1\/8<k then 1 else ver k.toNat l
def comp(k:Nat)(l:List UInt8):List UInt8×Int:=
 if l=[]then([],5)
 else if 4096<l.length then([],4)
 else if l.all (λc=>datB k c.toNat)=false then([],6)
 else if fits k (l.length+size k)=false then([],7)
 else(cmp k l,0)
def compI(k:Int)(l:List UInt8):List UInt8×Int:=if k<1\/8<k then([],1)else comp k.toNat l
def app(k:Int)(l:List UInt8):List UInt8×Int:=
 if(compI k l).2=0 then(if 4096<l.length+(compI k l).1.length then([],4)else(l++(compI k l).1,0))else([],(compI k l).2)
def wt(ws:List Int)(m:Int)(i:Nat):Int:=((ws.getD (i%ws.length) 0).tmod m+m)%m
def wsP(ws:List Int)(m:Int):List UInt8->Int
 | []=>0
 |c::l=>(wsP ws m l+dg c*wt ws m l.length)%m
def size_bd(k:Nat):1<=size k/\size k<=2:=by unfold size;exact Y7
def aD0(k n:Nat)(h:fits k n=true):size k<n:=by
 unfold fits at h;split at h;·rename_i h3;subst h3;have:n=10:=Y4;subst this;decide
 .simpa using h
def aCF(n:Nat)(h:fits 3 n=true):n=10:=by simpa[fits]using h
def aA8{α β:Type}(f:β->α->β)(b:β)(l:List α)(x:α):(l++[x]).foldl f b=f (l.foldl f b) x:=by simp
def perm_bd(x:Int):0<=perm x/\perm x<=9:=by
 unfold perm;generalize x.toNat=n
 match n with
 |0=>decide
 |1=>decide
 |2=>decide
 |3=>decide
 |4=>decide
 |5=>decide
 |6=>decide
 |7=>decide
 |8=>decide
 |9=>decide
 |n+10=>simp[permL]
def aBn(n:Nat)(x:Int)(h:0<=x/\x<=9):0<=permN n x/\permN n x<=9:=by
 cases n with
 |zero=>exact h
 |succ n=>exact perm_bd _
def dih_bd(a b:Int)(_ha:0<=a/\a<=9)(_hb:0<=b/\b<=9):0<=Jj a b/\Jj a b<=9:=by unfold Jj;split<;>split<;>omega
def aCx(l:List UInt8)(h:IP l):0<=vh l/\vh l<=9:=by
 induction l with
 |nil=>simp[vh]
 |cons c l ih=>exact dih_bd _ _ (ih (λx hx=>h x (Y1 _ hx))) (aBn _ _ (dg_bd (h c (C2 ..))))
def isb_bd(l:List UInt8)(h:IP l)(hl:l.length<=9):0<=isb l/\isb l<=99*l.length:=by
 induction l with
 |nil=>simp[isb]
 |cons c l ih=>simp only[B1]at hl;have h1:=ih (λx hx=>h x (Y1 _ hx)) C0;have h2:=dg_bd (h c (C2 ..));simp only[isb,B1];have h3:0<=((l.length:Int)+2)*dg c:=S8 C0 h2.1;have h4:((l.length:Int)+2)*dg c<=11*9:=YM C0 h2.2 h2.1 C0;omega
def aD1{α:Type}(f:Int->α->Int)(P:Int->Prop)(l:List α)(b:Int)(hb:P b)(hs:∀p c,P p->P (f p c)):P (l.foldl f b):=by
 induction l generalizing b with
 |nil=>exact hb
 |cons c l ih=>exact ih _ (hs _ _ hb)
def dmAt_bd(c x:Int):0<=c/\c<=9->0<=x/\x<=9->0<=Rr c x/\Rr c x<=9:=by
 intro hc hx;obtain⟨c,rfl⟩:=C4 hc.1;obtain⟨x,rfl⟩:=C4 hx.1;have h:∀(c:Fin 10)(x:Fin 10),0<=Rr (c.1:Int) (x.1:Int)/\Rr (c.1:Int) (x.1:Int)<=9:=by decide
 exact h ⟨c,by omega⟩ ⟨x,by omega⟩
def dm_bd(l:List UInt8)(h:IP l):0<=dm l/\dm l<=9:=by
 have:∀(l:List UInt8)(b:Int),IP l->0<=b/\b<=9->0<=l.foldl (λc x=>Rr c (dg x)) b/\l.foldl (λc x=>Rr c (dg x)) b<=9:=by
  intro l
  induction l with
  |nil=>intro b _ hb;exact hb
  |cons c l ih=>intro b h hb;exact ih _ (λx hx=>h x (Y1 _ hx)) (dmAt_bd _ _ hb (dg_bd (h c (C2 ..))))
 exact this l 0 h C0
def i97_bd(l:List UInt8):0<=i97 l/\i97 l<=96:=aD1 _ (λp=>0<=p/\p<=96) l 0 C0 (λp c hp=>by omega)
def i11_bd(l:List UInt8):0<=i11 l/\i11 l<=10:=aD1 _ (λp=>0<=p/\p<=10) l 0 C0 (λp c hp=>by omega)
def plc_bd(c:UInt8): -1<=Hd c/\Hd c<=42:=by
 have h:∀(l:List UInt8),-1<=Lib.indexByte l c/\Lib.indexByte l c<(l.length:Int):=by
  intro l
  induction l with
  |nil=>simp[Lib.indexByte]
  |cons b l ih=>simp only[Lib.indexByte,B1];split;(·omega);·exact Y7
 have:=h syms;have e:(syms.length:Int)=43:=rfl;unfold Hd;omega
def c39_bd(l:List UInt8)(h:∀c∈l,0<=Hd c):0<=c39 l/\c39 l<=42*l.length:=by
 have:∀(l:List UInt8)(b:Int),(∀c∈l,0<=Hd c)->b<=(l.map Hd).foldl (·+·) b/\(l.map Hd).foldl (·+·) b<=b+42*l.length:=by
  intro l
  induction l with
  |nil=>intro b _;simp
  |cons c l ih=>intro b h;have h1:=ih (b+Hd c) (λx hx=>h x (Y1 _ hx));have h2:=plc_bd c;have h3:=h c (C2 ..);simp only[M4,N3,B1];omega
 have:=this l 0 h;unfold c39;omega
def inv_bd(c:Int)(_h:0<=c/\c<=9):0<=inv c/\inv c<=9:=by unfold inv;exact Y7
def dih_inv(c:Int)(_h:0<=c/\c<=9):Jj (inv c) c=0:=by
 unfold Jj inv
 repeat' split
 all_goals omega
def dih_inv_only(c e:Int)(h:0<=c/\c<=9)(he:0<=e/\e<=9)(h0:Jj e c=0):e=inv c:=by unfold Jj at h0;unfold inv;split at h0<;>split at h0<;>split<;>omega
def aFQ:∀i:Fin 10,Lib.decDigits i.1=[UInt8.ofNat (48+i.1)]:=by intro i;rw[Lib.decDigits];simp
def dec_chr(v:Nat)(h:v<10):Lib.decDigits v=[chr (v:Int)]:=by rw[aFQ ⟨v,h⟩,chr,D0 C0];simp
end Cd
namespace Ea
def size(k:Int):Nat:=if k=1 then 13 else if k=2 then 8 else if k=3 then 12 else if k=4 then 8 else 0
def o6(l:List UInt8):Bool:=l.all (λc=>Cd.isDig c.toNat)
def Gf(l:List UInt8):List UInt8:=
 if l.getD 6 0<=50 then l.take 3++(l.drop 6).take 1++[48,48,48,48]++(l.drop 3).take 3
 else if l.getD 6 0=51 then l.take 4++[48,48,48,48,48]++(l.drop 4).take 2
 else if l.getD 6 0=52 then l.take 5++[48,48,48,48,48]++(l.drop 5).take 1
 else l.take 6++[48,48,48,48]++(l.drop 6).take 1
def Bl(l:List UInt8):List UInt8:=Gf (l.take 7)++l.drop 7
def Bk(l:List UInt8):UInt8:=Cd.chr ((10-(Cd.gsP l).1%10)%10)
def Hm(k:Int)(l:List UInt8):UInt8:=if k=4 then Bk (Gf l)else Bk l
def comp(k:Int)(l:List UInt8):List UInt8×Int:=
 if size k=0 then([],1)
 else if o6 l=false then([],6)
 else if l.length≠size k/\l.length+1≠size k then([],7)
 else if k=4/\49<l.getD 0 0 then([],9)
 else if l.length=size k/\l≠l.take (size k-1)++[Hm k (l.take (size k-1))]then([],8)
 else(l.take (size k-1)++[Hm k (l.take (size k-1))],0)
def full(k:Int)(l:List UInt8):Int:=if size k≠0/\o6 l=true/\l.length+1=size k then 7 else(comp k l).2
def bits(l:List Nat):List Bool:=l.map (λx=>x==1)
def tab:List (List (List Bool)):=[
 [bits [0,0,0,1,1,0,1],bits [0,0,1,1,0,0,1],bits [0,0,1,0,0,1,1],bits [0,1,1,1,1,0,1],bits [0,1,0,0,0,1,1],bits [0,1,1,0,0,0,1],bits [0,1,0,1,1,1,1],bits [0,1,1,1,0,1,1],bits [0,1,1,0,1,1,1],bits [0,0,0,1,0,1,1]],
 [bits [0,1,0,0,1,1,1],bits [0,1,1,0,0,1,1],bits [0,0,1,1,0,1,1],bits [0,1,0,0,0,0,1],bits [0,0,1,1,1,0,1],bits [0,1,1,1,0,0,1],bits [0,0,0,0,1,0,1],bits [0,0,1,0,0,0,1],bits [0,0,0,1,0,0,1],bits [0,0,1,0,1,1,1]],
 [bits [1,1,1,0,0,1,0],bits [1,1,0,0,1,1,0],bits [1,1,0,1,1,0,0],bits [1,0,0,0,0,1,0],bits [1,0,1,1,1,0,0],bits [1,0,0,1,1,1,0],bits [1,0,1,0,0,0,0],bits [1,0,0,0,1,0,0],bits [1,0,0,1,0,0,0],bits [1,1,1,0,1,0,0]]]
def Bf(t d:Nat):List Bool:=(tab.getD t []).getD d []
def gd:List Bool:=bits [1,0,1]
def md:List Bool:=bits [0,1,0,1,0]
def eE:List Bool:=bits [0,1,0,1,0,1]
def sA:List Bool:=bits [1,0,1,1]
def gA:List Bool:=bits [0,1]
def lgt(n:Nat):List Bool:=List.replicate n false
def aBT:List (List Nat):=[[0,0,0,0,0,0],[0,0,1,0,1,1],[0,0,1,1,0,1],[0,0,1,1,1,0],[0,1,0,0,1,1],[0,1,1,0,0,1],[0,1,1,1,0,0],[0,1,0,1,0,1],[0,1,0,1,1,0],[0,1,1,0,1,0]]
def setsE0:List (List Nat):=[[1,1,1,0,0,0],[1,1,0,1,0,0],[1,1,0,0,1,0],[1,1,0,0,0,1],[1,0,1,1,0,0],[1,0,0,1,1,0],[1,0,0,0,1,1],[1,0,1,0,1,0],[1,0,1,0,0,1],[1,0,0,1,0,1]]
def Fb(d:Nat):List Nat:=aBT.getD d []
def Fj(s c:Nat):List Nat:=if s=0 then setsE0.getD c []else(setsE0.getD c []).map (λx=>1-x)
def aAC:List (List Nat):=[[0,0],[0,1],[1,0],[1,1]]
def aAD:List (List Nat):=[[1,1,0,0,0],[1,0,1,0,0],[1,0,0,1,0],[1,0,0,0,1],[0,1,1,0,0],[0,0,1,1,0],[0,0,0,1,1],[0,1,0,1,0],[0,1,0,0,1],[0,0,1,0,1]]
def dv(l:List UInt8)(i:Nat):Nat:=(l.getD i 48).toNat-48
def Da(l:List UInt8):List Nat:=
 if l.length=2 then aAC.getD ((10*dv l 0+dv l 1)%4) []
 else aAD.getD ((3*(dv l 0+dv l 2+dv l 4)+9*(dv l 1+dv l 3))%10) []
def drw(sep:List Bool):List UInt8->List Nat->List Bool
 | [],_=>[]
 |_,[]=>[]
 | [c],t::_=>Bf t (c.toNat-48)
 |c::d::l,t::ts=>Bf t (c.toNat-48)++sep++drw sep (d::l) ts
def sym13(l:List UInt8):List Bool:=gd++drw [] ((l.drop 1).take 6) (Fb (dv l 0))++md++drw [] (l.drop 7) [2,2,2,2,2,2]++gd
def sym8(l:List UInt8):List Bool:=gd++drw [] (l.take 4) [0,0,0,0]++md++drw [] (l.drop 4) [2,2,2,2]++gd
def symE(l:List UInt8):List Bool:=gd++drw [] ((l.drop 1).take 6) (Fj (dv l 0) (dv l 7))++eE
def sym(k:Int)(l:List UInt8):List Bool:=if k=3 then sym13 (48::l)else if k=1 then sym13 l else if k=2 then sym8 l else symE l
def addn(l:List UInt8):List Bool:=sA++drw gA l (Da l)
def lq(k:Int):Nat:=if k=1 then 11 else if k=2 then 7 else 9
def rq(k:Int):Nat:=if k=3 then 9 else 7
def enc(k:Int)(l a:List UInt8):List Bool×Int:=
 if full k l≠0 then([],full k l)
 else if o6 a=false then([],6)
 else if a.length≠0/\a.length≠2/\a.length≠5 then([],7)
 else if a.length=0 then(lgt (lq k)++sym k l++lgt (rq k),0)
 else(lgt (lq k)++sym k l++lgt 9++addn a++lgt 7,0)
def idx{α:Type} [DecidableEq α]:List α->α->Option Nat
 | [],_=>none
 |x::l,y=>if x=y then some 0 else(idx l y).map (·+1)
def Jy(t:Nat)(m:List Bool):Option Nat:=idx (tab.getD t []) m
def look(both:Bool)(t:Nat)(m:List Bool):Option (Nat×Nat):=
 if both=true then(match Jy 1 m with
  |some d=>some (d,1)
  |none=>(Jy 0 m).map (λd=>(d,0)))
 else(Jy t m).map (λd=>(d,t))
def rcg(both:Bool)(t Iy:Nat):Nat->List Bool->Option (List UInt8×List Nat)
 |0,_=>some ([],[])
 |n+1,s=>match look both t (s.take 7)with
  |none=>none
  |some (d,u)=>match rcg both t Iy n (s.drop (7+Iy))with
   |none=>none
   |some (ds,us)=>some (UInt8.ofNat (48+d)::ds,u::us)
def Xp(u:List Nat):Option Nat:=idx aBT u
def Xq(u:List Nat):Option (Nat×Nat):=match idx setsE0 u with
 |some c=>some (0,c)
 |none=>(idx (setsE0.map (λl=>l.map (λx=>1-x))) u).map (λc=>(1,c))
def chr(d:Nat):UInt8:=UInt8.ofNat (48+d)
def rd13(s:List Bool):Option (List UInt8):=match rcg true 0 0 6 (s.drop 3),rcg false 2 0 6 (s.drop 50)with
 |some (l,u),some (r,_)=>if(s.drop 45).take 5=md then(Xp u).map (λd=>chr d::(l++r))else none
 |_,_=>none
def rd8(s:List Bool):Option (List UInt8):=match rcg false 0 0 4 (s.drop 3),rcg false 2 0 4 (s.drop 36)with
 |some (l,_),some (r,_)=>if(s.drop 31).take 5=md then some (l++r)else none
 |_,_=>none
def rdE(s:List Bool):Option (List UInt8):=match rcg true 0 0 6 (s.drop 3)with
 |some (l,u)=>(Xq u).map (λp=>chr p.1::(l++[chr p.2]))
 |none=>none
def kindOf(n:Nat):Int:=if n=95 then 1 else if n=67 then 2 else 4
def rdK(n:Nat)(s:List Bool):Option (List UInt8):=if n=95 then rd13 s else if n=67 then rd8 s else rdE s
def Uq(n:Nat):List Bool:=if n=51 then eE else gd
def rdSym(n:Nat)(s:List Bool):(Int×List UInt8)×Int:=
 if s.take 3≠gd then((0,[]),19)
 else if s.drop (n-(Uq n).length)≠Uq n then((0,[]),20)
 else match rdK n s with
  |none=>((0,[]),18)
  |some l=>if full (kindOf n) l≠0 then((0,[]),8)
   else if n=95/\l.getD 0 0=48 then((3,l.drop 1),0)else((kindOf n,l),0)
def rdAdd(n:Nat)(s:List Bool):List UInt8×Int:=
 if s.take 4≠sA then([],19)
 else if(List.range (n-1)).all (λi=>(s.drop (11+9*i)).take 2==gA)=false then([],18)
 else match rcg true 0 2 n (s.drop 4)with
  |none=>([],18)
  |some (l,u)=>if Da l≠u then([],8)else(l,0)
def Co(n:Nat):Nat:=if n=0 then 0 else if n=2 then 20 else 47
def fits(s:List Bool)(n a:Nat):Bool:=
 if a=0 then s.length==n else decide (n+Co a+7<=s.length)&&decide (s.length<=n+Co a+12)&&((s.drop n).take (s.length-n-Co a)).all (λb=> !b)
abbrev Got:=(Int×List UInt8×List UInt8)×Int
def He(s:List Bool)(n a:Nat):Got:=
 if(rdSym n (s.take n)).2≠0 then((0,[],[]),(rdSym n (s.take n)).2)
 else if a=0 then(((rdSym n (s.take n)).1.1,(rdSym n (s.take n)).1.2,[]),0)
 else if(rdAdd a (s.drop (s.length-Co a))).2≠0 then((0,[],[]),(rdAdd a (s.drop (s.length-Co a))).2)
 else(((rdSym n (s.take n)).1.1,(rdSym n (s.take n)).1.2,(rdAdd a (s.drop (s.length-Co a))).1),0)
def aBU:List (Nat×Nat):=[(95,0),(95,2),(95,5),(67,0),(67,2),(67,5),(51,0),(51,2),(51,5)]
def decF(s:List Bool):Int->List (Nat×Nat)->Got
 |e,[]=>((0,[],[]),e)
 |e,(n,a)::l=>if fits s n a=false then decF s e l
  else if(He s n a).2=0 then He s n a
  else decF s (if e=7 then(He s n a).2 else e) l
def ldg:List Bool->Nat
 | []=>0
 |b::l=>if b then 0 else ldg l+1
def Ac(s:List Bool):Nat:=ldg s.reverse
def dec(s:List Bool):Got:=
 if 65536<s.length then((0,[],[]),4)
 else if ldg s=s.length then((0,[],[]),5)
 else if ldg s<7\/Ac s<7 then((0,[],[]),9)
 else decF ((s.drop (ldg s)).take (s.length-Ac s-ldg s)) 7 aBU
end Ea
namespace Tw
def cutAt(ps:List UInt8)(z i:Nat):List UInt8:=(ps.drop (i*z)).take z
def pat(cs ps:List UInt8)(z:Nat)(c:UInt8):List UInt8×Bool:=
 if Lib.indexByte cs c<0 then([],false)else(cutAt ps z (Lib.indexByte cs c).toNat,true)
def chr(cs ps:List UInt8)(z:Nat)(p:List UInt8):UInt8×Bool:=
 match(List.range cs.length).find? (λi=>cutAt ps z i==p)with
 |some i=>(cs.getD i 0,true)
 |none=>(0,false)
def aFJ(cs ps:List UInt8)(z:Nat)(p:List UInt8)(j:Nat)(hj:j<cs.length)(h:cutAt ps z j=p)(hb:∀i,i<j->cutAt ps z i≠p):chr cs ps z p=(cs.getD j 0,true):=by
 have:(List.range cs.length).find? (λi=>cutAt ps z i==p)=some j:=vH;unfold chr;rw[this]
def aFK(cs ps:List UInt8)(z:Nat)(p:List UInt8)(hb:∀i,i<cs.length->cutAt ps z i≠p):chr cs ps z p=(0,false):=by
 have:(List.range cs.length).find? (λi=>cutAt ps z i==p)=none:=vI;unfold chr;rw[this]
def only(l cs:List UInt8):Bool:=l.all λc=>decide (0<=Lib.indexByte cs c)
def counts(z least Fi:Nat)(n:Nat)(check:Bool):Bool:=
 decide ((n+1)%(z+1)=0)&&decide (least+2+check.toNat<=(n+1)/(z+1))&&decide ((n+1)/(z+1)<=Fi+2+check.toNat)
def comp39(l:List UInt8)(check:Bool):List UInt8×Int:=
 if only l Cd.syms=false then([],6)
 else if check=false then(42::l++[42],0)
 else if(Cd.compI 7 l).2=0 then(42::l++(Cd.compI 7 l).1++[42],0)else([],(Cd.compI 7 l).2)
def text39(l:List UInt8)(check:Bool):List UInt8:=(l.drop 1).take (l.length-2-check.toNat)
end Tw
namespace Tw
def c39:List UInt8:=[48,49,50,51,52,53,54,55,56,57,65,66,67,68,69,70,71,72,73,74,75,76,77,78,79,80,81,82,83,84,85,86,87,88,89,90,45,46,32,36,47,43,37,42]
def p39:List UInt8:=[110,110,110,119,119,110,119,110,110,119,110,110,119,110,110,110,110,119,110,110,119,119,110,110,110,110,119,119,110,119,119,110,110,110,110,110,110,110,110,119,119,110,110,110,119,119,110,110,119,119,110,110,110,110,110,110,119,119,119,110,110,110,110,110,110,110,119,110,110,119,110,119,119,110,110,119,110,110,119,110,110,110,110,119,119,110,110,119,110,110,119,110,110,110,110,119,110,110,119,110,110,119,110,110,119,110,110,119,119,110,119,110,110,119,110,110,110,110,110,110,110,119,119,110,110,119,119,110,110,110,119,119,110,110,110,110,110,119,110,119,119,110,110,110,110,110,110,110,110,119,119,110,119,119,110,110,110,110,119,119,110,110,110,110,119,110,110,119,119,110,110,110,110,110,110,119,119,119,110,110,119,110,110,110,110,110,110,119,119,110,110,119,110,110,110,110,119,119,119,110,119,110,110,110,110,119,110,110,110,110,110,119,110,110,119,119,119,110,110,110,119,110,110,119,110,110,110,119,110,119,110,110,119,110,110,110,110,110,110,110,119,119,119,119,110,110,110,110,110,119,119,110,110,110,119,110,110,110,119,119,110,110,110,110,110,119,110,119,119,110,119,119,110,110,110,110,110,110,119,110,119,119,110,110,110,110,110,119,119,119,119,110,110,110,110,110,110,110,119,110,110,119,110,110,110,119,119,119,110,110,119,110,110,110,110,110,119,119,110,119,110,110,110,110,110,119,110,110,110,110,119,110,119,119,119,110,110,110,110,119,110,110,110,119,119,110,110,110,119,110,110,110,119,110,119,110,119,110,110,110,110,119,110,119,110,110,110,119,110,110,119,110,110,110,119,110,119,110,110,110,110,119,110,119,110,119,110,110,119,110,110,119,110,119,110,110]
def Bb:List UInt8:=[48,49,50,51,52,53,54,55,56,57,45,36,58,47,46,43,65,66,67,68]
def pCb:List UInt8:=[110,110,110,110,110,119,119,110,110,110,110,119,119,110,110,110,110,119,110,110,119,119,119,110,110,110,110,110,110,110,119,110,110,119,110,119,110,110,110,110,119,110,110,119,110,110,110,110,119,110,119,110,110,119,110,110,110,119,119,110,110,110,110,119,110,110,119,110,110,110,110,110,110,119,119,110,110,110,110,119,119,110,110,110,119,110,110,110,119,110,119,119,110,119,110,110,110,119,119,110,119,110,119,110,110,110,110,119,110,119,110,119,110,110,119,119,110,119,110,110,119,110,119,110,110,119,110,110,110,119,110,119,119,110,110,110,119,119,119,110]
def Ep:List UInt8:=[48,49,50,51,52,53,54,55,56,57,45,36,58,47,46,43]
def Es:List UInt8:=[65,66,67,68]
def IH:List UInt8:=[48,49,50,51,52,53,54,55,56,57]
def Cg:List UInt8:=[110,110,119,119,110,119,110,110,110,119,110,119,110,110,119,119,119,110,110,110,110,110,119,110,119,119,110,119,110,110,110,119,119,110,110,110,110,110,119,119,119,110,110,119,110,110,119,110,119,110]
def Hw(cs ps:List UInt8)(z:Nat)(e:List UInt8)(i:Nat):UInt8×Bool:=chr cs ps z ((e.drop (i*(z+1))).take z)
def isIn(set:List UInt8)(r:UInt8×Bool):Bool:=r.2&&decide (0<=Lib.indexByte set r.1)
def rdErr(cs ps x6 inner:List UInt8)(z:Nat)(e:List UInt8)(n i:Nat):Int:=
 if 0<i/\e.getD (i*(z+1)-1) 0=119 then 18
 else if i=0/\isIn x6 (Hw cs ps z e i)=false then 19
 else if i+1=n/\isIn x6 (Hw cs ps z e i)=false then 20
 else if 0<i/\i+1<n/\isIn inner (Hw cs ps z e i)=false then 18
 else 0
def read(cs ps x6 inner:List UInt8)(z:Nat)(e:List UInt8):List UInt8×Int:=
 match(List.range ((e.length+1)/(z+1))).find? (λi=>rdErr cs ps x6 inner z e ((e.length+1)/(z+1)) i !=0)with
 |some i=>([],rdErr cs ps x6 inner z e ((e.length+1)/(z+1)) i)
 |none=>((List.range ((e.length+1)/(z+1))).map λi=>(Hw cs ps z e i).1,0)
def aE2(cs ps x6 inner:List UInt8)(z:Nat)(e:List UInt8)(n j:Nat)(hn:n=(e.length+1)/(z+1))(hj:j<n)(h:rdErr cs ps x6 inner z e n j≠0)(hb:∀i,i<j->rdErr cs ps x6 inner z e n i=0):
 read cs ps x6 inner z e=([],rdErr cs ps x6 inner z e n j):=by
 have:(List.range n).find? (λi=>rdErr cs ps x6 inner z e n i !=0)=some j:=vH;unfold read;rw[<-hn,this]
def aE1(cs ps x6 inner:List UInt8)(z:Nat)(e:List UInt8)(n:Nat)(hn:n=(e.length+1)/(z+1))(hb:∀i,i<n->rdErr cs ps x6 inner z e n i=0):
 read cs ps x6 inner z e=((List.range n).map λi=>(Hw cs ps z e i).1,0):=by
 have:(List.range n).find? (λi=>rdErr cs ps x6 inner z e n i !=0)=none:=vI;unfold read;rw[<-hn,this]
def sumCb(l:List UInt8):Int:=(l.map (Lib.indexByte Bb)).foldl (·+·) 0
def compCb(l:List UInt8)(check:Bool):List UInt8×Int:=
 if l.length<2 then([],7)
 else if only (l.take 1) Es=false then([],19)
 else if only (l.drop (l.length-1)) Es=false then([],20)
 else if only ((l.drop 1).take (l.length-2)) Ep=false then([],6)
 else if check=false then(l,0)
 else(l.take (l.length-1)++[Ep.getD ((16-sumCb l%16)%16).toNat 0]++l.drop (l.length-1),0)
def textCb(l:List UInt8)(check:Bool):List UInt8:=if check then l.take (l.length-2)++l.drop (l.length-1)else l
def countsItf(n:Nat):Bool:=decide (17<=n)&&decide ((n-7)%10=0)&&decide ((n-7)/10<=500)
def compItf(l:List UInt8)(check:Bool):List UInt8×Int:=
 if only l IH=false then([],6)
 else if check=false then(if l.length%2=0 then(l,0)else([],7))
 else if(Cd.compI 1 l).2=0 then(if(l++(Cd.compI 1 l).1).length%2=0 then(l++(Cd.compI 1 l).1,0)else([],7))else([],(Cd.compI 1 l).2)
def mix:List UInt8->List UInt8->List UInt8
 |a::l,b::m=>a::b::mix l m
 |_,_=>[]
def drawPairs:List UInt8->List UInt8
 |a::b::l=>mix (pat IH Cg 5 a).1 (pat IH Cg 5 b).1++drawPairs l
 |_=>[]
def drawItf(l:List UInt8):List UInt8:=[110,110,110,110]++drawPairs l++[119,110,110]
def evens:List UInt8->List UInt8
 |a::_::l=>a::evens l
 |_=>[]
def odds:List UInt8->List UInt8
 |_::b::l=>b::odds l
 |_=>[]
def IM(e:List UInt8)(i:Nat):List UInt8:=(e.drop (4+10*i)).take 10
def Rp(e:List UInt8)(i:Nat):UInt8×Bool:=chr IH Cg 5 (evens (IM e i))
def Rq(e:List UInt8)(i:Nat):UInt8×Bool:=chr IH Cg 5 (odds (IM e i))
def pairOk(e:List UInt8)(i:Nat):Bool:=(Rp e i).2&&(Rq e i).2
def readItf(e:List UInt8):List UInt8×Int:=
 if e.take 4≠ [110,110,110,110]then([],19)
 else if(List.range ((e.length-7)/10)).all (pairOk e)=false then([],18)
 else if e.drop (e.length-3)≠ [119,110,110]then([],20)
 else((List.range ((e.length-7)/10)).flatMap λi=>[(Rp e i).1,(Rq e i).1],0)
def textItf(l:List UInt8)(check:Bool):List UInt8:=if check then l.take (l.length-1)else l
def patK(k:Nat)(c:UInt8):List UInt8×Bool:=match k with
 |0=>pat c39 p39 9 c
 |1=>pat Bb pCb 7 c
 |_=>pat IH Cg 5 c
def countsK(k:Nat)(n:Nat)(check:Bool):Bool:=match k with
 |0=>counts 9 1 1000 n check
 |1=>counts 7 0 998 n check
 |_=>countsItf n
def IJ(k:Nat)(l:List UInt8)(check:Bool):List UInt8×Int:=match k with
 |0=>comp39 l check
 |1=>compCb l check
 |_=>compItf l check
def Er(k:Nat)(l:List UInt8):List UInt8:=match k with
 |0=>Lib.join (l.map λc=>(pat c39 p39 9 c).1) [110]
 |1=>Lib.join (l.map λc=>(pat Bb pCb 7 c).1) [110]
 |_=>drawItf l
def Ij(k:Nat)(e:List UInt8):List UInt8×Int:=match k with
 |0=>read c39 p39 [42] Cd.syms 9 e
 |1=>read Bb pCb Es Ep 7 e
 |_=>readItf e
def Wt(k:Nat)(l:List UInt8)(check:Bool):List UInt8:=match k with
 |0=>text39 l check
 |1=>textCb l check
 |_=>textItf l check
def widths(r:Int)(e:List UInt8):List Int:=e.map λc=>if c=119 then r else 1
def encK(k:Nat)(l:List UInt8)(r:Int)(check:Bool):List Int×Int:=
 if r≠2/\r≠3 then([],1)
 else if l=[]then([],5)
 else if 1000<l.length then([],4)
 else if(IJ k l check).2≠0 then([],(IJ k l check).2)
 else(widths r (Er k (IJ k l check).1),0)
def enc(kind:Int)(l:List UInt8)(r:Int)(check:Bool):List Int×Int:=
 if kind=5 then encK 0 l r check else if kind=6 then encK 1 l r check else if kind=7 then encK 2 l r check else([],1)
def inRng(ws:List Int):Bool:=ws.all λx=>decide (1<=x)&&decide (x<=65536)
def lo(ws:List Int):Int:=ws.foldl min (ws.getD 0 0)
def hi(ws:List Int):Int:=ws.foldl max (ws.getD 0 0)
def Tf(ws:List Int)(x:Int):Bool:=decide (lo ws+hi ws<2*x)
def leastWide(ws:List Int)(l:List Int):Int:=l.foldl (λa x=>if Tf ws x then min a x else a) (hi ws)
def mostNarrow(ws:List Int)(l:List Int):Int:=l.foldl (λa x=>if Tf ws x then a else max a x) (lo ws)
def wide(ws:List Int):List Bool×Int:=
 if ws=[]then([],5)
 else if inRng ws=false then([],3)
 else if 2*hi ws<3*lo ws then(ws.map λ_=>false,0)
 else if 2*leastWide ws ws<3*mostNarrow ws ws then([],18)
 else(ws.map (Tf ws),0)
def elems(l:List Bool):List UInt8:=l.map λb=>if b then 119 else 110
def decK(k:Nat)(ws:List Int)(check:Bool):List UInt8×Int:=
 if countsK k ws.length check=false then([],7)
 else if(wide ws).2≠0 then([],(wide ws).2)
 else if(Ij k (elems (wide ws).1)).2≠0 then([],(Ij k (elems (wide ws).1)).2)
 else if check=true/\IJ k (Wt k (Ij k (elems (wide ws).1)).1 check) true≠((Ij k (elems (wide ws).1)).1,0)then([],8)
 else(Wt k (Ij k (elems (wide ws).1)).1 check,0)
def dec(kind:Int)(ws:List Int)(check:Bool):List UInt8×Int:=
 if kind=5 then decK 0 ws check else if kind=6 then decK 1 ws check else if kind=7 then decK 2 ws check else([],1)
def bits(e:List UInt8):List Bool:=e.map λc=>c==119
def Ao(k:Nat)(c:UInt8):List Bool×Int:=if(patK k c).2 then(bits (patK k c).1,0)else([],6)
def rep(c:UInt8):List UInt8:=
 if c=0 then [37,85]
 else if c<=26 then [36,64+c]
 else if c<=31 then [37,38+c]
 else if 33<=c/\c<=44 then [47,32+c]
 else if c=47 then [47,79]
 else if c=58 then [47,90]
 else if 59<=c/\c<=63 then [37,11+c]
 else if c=64 then [37,86]
 else if 91<=c/\c<=95 then [37,c-16]
 else if c=96 then [37,87]
 else if 97<=c/\c<=122 then [43,c-32]
 else if 123<=c/\c<=126 then [37,c-43]
 else if c=127 then [37,84]
 else [c]
end Tw
namespace Rn
def runsGo:Bool->Nat->List Bool->List Nat
 |_,n,[]=>[n]
 |c,n,b::r=>if b=c then runsGo c (n+1) r else n::runsGo b 1 r
def core(s:List Bool):List Bool:=(s.drop (Ea.ldg s)).take (s.length-Ea.Ac s-Ea.ldg s)
def widthsN(s:List Bool):List Nat:=match core s with
 | []=>[]
 |b::r=>runsGo b 1 r
def widths(s:List Bool):List Int:=(widthsN s).map λ(n:Nat)=>(n:Int)
def mods:Bool->List Int->List Bool
 |_,[]=>[]
 |b,x::r=>List.replicate x.toNat b++mods (!b) r
def sum(ws:List Int):Int:=ws.foldl (·+·) 0
def modules(ws:List Int):List Bool×Int:=
 if ws.length=0 then([],5)else if ws.length%2=0 then([],7)else if Tw.inRng ws=false then([],3)else if 65536<sum ws then([],4)else(mods true ws,0)
def gcdGo:Nat->List Int->Int
 |g,[]=>(g:Int)
 |g,x::r=>if x<1 then 0 else gcdGo (Nat.gcd g x.toNat) r
def unit(ws:List Int):Int:=gcdGo 0 ws
def Fx(s t:Int)(m w:Int):Int:=s*m-t*w
def leastGo(s t:Int):Nat->Nat->Int->List Int->List Int->Nat
 |_,b,_,[],_=>b
 |_,b,_,_,[]=>b
 |i,b,v,m::ms,w::ws=>if Fx s t m w<v then leastGo s t (i+1) i (Fx s t m w) ms ws else leastGo s t (i+1) b v ms ws
def least(s t:Int)(ms ws:List Int):Nat:=leastGo s t 1 0 (Fx s t (ms.getD 0 0) (ws.getD 0 0)) (ms.drop 1) (ws.drop 1)
def give(s t:Int)(ws:List Int):Nat->List Int->List Int
 |0,ms=>ms
 |n+1,ms=>give s t ws n (ms.set (least s t ms ws) (ms.getD (least s t ms ws) 0+1))
def quant(ws:List Int)(t:Int):List Int×Int:=
 if ws.length=0 then([],5)else if 65536<ws.length then([],4)else if Tw.inRng ws=false\/t<ws.length\/65536<t then([],3)
 else(give (sum ws) t ws (t.toNat-ws.length) (List.replicate ws.length 1),0)
def runsGo_app(c:Bool):∀(n:Nat)(k:Nat)(r:List Bool),runsGo c n (List.replicate k c++r)=runsGo c (n+k) r
 |n,0,r=>rfl
 |n,k+1,r=>by rw[G5,C3,runsGo,G0 rfl,runsGo_app c (n+1) k r];congr 1;omega
def leastGo_at(s t:Int):∀(ms ws:List Int)(i b:Nat)(v:Int),ms.length=ws.length->
 (leastGo s t i b v ms ws=b/\(∀(k:Nat)(m w:Int),ms[k]? =some m->ws[k]? =some w->v<=Fx s t m w))\/
 (∃(k:Nat)(m w:Int),leastGo s t i b v ms ws=i+k/\ms[k]? =some m/\ws[k]? =some w/\Fx s t m w<v/\(∀(j:Nat)(m' w':Int),ms[j]? =some m'->ws[j]? =some w'->Fx s t m w<=Fx s t m' w')/\∀(j:Nat)(m' w':Int),j<k->ms[j]? =some m'->ws[j]? =some w'->Fx s t m w<Fx s t m' w')
 | [],ws,i,b,v,h=>.inl ⟨rfl,λk m w hm=>by simp at hm⟩
 |m::ms,[],i,b,v,h=>by cases h
 |m::ms,w::ws,i,b,v,h=>by
  have hl:ms.length=ws.length:=Y4;rw[leastGo];by_cases hc:Fx s t m w<v
  .rw[G0 hc];right;rcases leastGo_at s t ms ws (i+1) i (Fx s t m w) hl with⟨h1,h2⟩|⟨k,m',w',h1,h2,h3,h4,h5,h6⟩
   .refine⟨0,m,w,by rw[h1];rfl,rfl,rfl,hc,?_,λj _ _ hj=>by omega⟩
    intro j m' w' hm hw
    cases j with
    |zero=>simp at hm hw;subst hm hw;exact Int.le_refl _
    |succ j=>exact h2 j m' w' M9 YN
   .refine⟨k+1,m',w',by rw[h1];omega,by simpa using h2,by simpa using h3,by omega,?_,?_⟩
    .intro j a c hm hw
     cases j with
     |zero=>simp at hm hw;subst hm hw;omega
     |succ j=>exact h5 j a c M9 YN
    .intro j a c hj hm hw
     cases j with
     |zero=>simp at hm hw;subst hm hw;exact h4
     |succ j=>exact h6 j a c C0 M9 YN
  .rw[D0 hc];rcases leastGo_at s t ms ws (i+1) b v hl with⟨h1,h2⟩|⟨k,m',w',h1,h2,h3,h4,h5,h6⟩
   .left
    refine⟨h1,λj a c hm hw=> ?_⟩
    cases j with
    |zero=>simp at hm hw;subst hm hw;omega
    |succ j=>exact h2 j a c M9 YN
   .right;refine⟨k+1,m',w',by rw[h1];omega,by simpa using h2,by simpa using h3,h4,?_,?_⟩
    .intro j a c hm hw
     cases j with
     |zero=>simp at hm hw;subst hm hw;omega
     |succ j=>exact h5 j a c M9 YN
    .intro j a c hj hm hw
     cases j with
     |zero=>simp at hm hw;subst hm hw;omega
     |succ j=>exact h6 j a c C0 M9 YN
def least_is{s t:Int}{ms ws:List Int}(hl:ms.length=ws.length){k:Nat}{m w:Int}(hm:ms[k]? =some m)(hw:ws[k]? =some w)
 (h1:∀(j:Nat)(m' w':Int),ms[j]? =some m'->ws[j]? =some w'->Fx s t m w<=Fx s t m' w')(h2:∀(j:Nat)(m' w':Int),j<k->ms[j]? =some m'->ws[j]? =some w'->Fx s t m w<Fx s t m' w'):least s t ms ws=k:=by
 cases ms with
 |nil=>simp at hm
 |cons m0 ms=>
  cases ws with
  |nil=>cases hl
  |cons w0 ws=>
   have Ih:ms.length=ws.length:=(by simpa using hl);unfold least;simp only[SR,SS,B5];rcases leastGo_at s t ms ws 1 0 (Fx s t m0 w0) Ih with⟨h3,h4⟩|⟨j,m',w',h3,h4,h5,h6,h7,h8⟩
   .rw[h3]
    cases k with
    |zero=>rfl
    |succ k=>have a:=h2 0 m0 w0 C0 rfl rfl;have b:=h4 k m w M9 YN;omega
   .rw[h3]
    cases k with
    |zero=>simp at hm hw;subst hm hw;have:=h1 (j+1) m' w' OU OV;omega
    |succ k=>have Yo:ms[k]? =some m:=M9;have hw':ws[k]? =some w:=YN;rcases Nat.lt_trichotomy j k with hjk|hjk|hjk;(·have a:=h2 (j+1) m' w' C0 OU OV;have b:=h7 k m w Yo hw';omega);(·omega);·have a:=h8 k m w hjk Yo hw';have b:=h1 (j+1) m' w' OU OV;omega
end Rn
namespace Cc
def Gu:List (List Int):=[[2,1,2,2,2,2],[2,2,2,1,2,2],[2,2,2,2,2,1],[1,2,1,2,2,3],[1,2,1,3,2,2],[1,3,1,2,2,2],[1,2,2,2,1,3],[1,2,2,3,1,2],[1,3,2,2,1,2],[2,2,1,2,1,3],[2,2,1,3,1,2],[2,3,1,2,1,2],[1,1,2,2,3,2],[1,2,2,1,3,2],[1,2,2,2,3,1],[1,1,3,2,2,2],[1,2,3,1,2,2],[1,2,3,2,2,1],[2,2,3,2,1,1],[2,2,1,1,3,2],[2,2,1,2,3,1],[2,1,3,2,1,2],[2,2,3,1,1,2],[3,1,2,1,3,1],[3,1,1,2,2,2],[3,2,1,1,2,2],[3,2,1,2,2,1],[3,1,2,2,1,2],[3,2,2,1,1,2],[3,2,2,2,1,1],[2,1,2,1,2,3],[2,1,2,3,2,1],[2,3,2,1,2,1],[1,1,1,3,2,3],[1,3,1,1,2,3],[1,3,1,3,2,1],[1,1,2,3,1,3],[1,3,2,1,1,3],[1,3,2,3,1,1],[2,1,1,3,1,3],[2,3,1,1,1,3],[2,3,1,3,1,1],[1,1,2,1,3,3],[1,1,2,3,3,1],[1,3,2,1,3,1],[1,1,3,1,2,3],[1,1,3,3,2,1],[1,3,3,1,2,1],[3,1,3,1,2,1],[2,1,1,3,3,1],[2,3,1,1,3,1],[2,1,3,1,1,3],[2,1,3,3,1,1],[2,1,3,1,3,1],[3,1,1,1,2,3],[3,1,1,3,2,1],[3,3,1,1,2,1],[3,1,2,1,1,3],[3,1,2,3,1,1],[3,3,2,1,1,1],[3,1,4,1,1,1],[2,2,1,4,1,1],[4,3,1,1,1,1],[1,1,1,2,2,4],[1,1,1,4,2,2],[1,2,1,1,2,4],[1,2,1,4,2,1],[1,4,1,1,2,2],[1,4,1,2,2,1],[1,1,2,2,1,4],[1,1,2,4,1,2],[1,2,2,1,1,4],[1,2,2,4,1,1],[1,4,2,1,1,2],[1,4,2,2,1,1],[2,4,1,2,1,1],[2,2,1,1,1,4],[4,1,3,1,1,1],[2,4,1,1,1,2],[1,3,4,1,1,1],[1,1,1,2,4,2],[1,2,1,1,4,2],[1,2,1,2,4,1],[1,1,4,2,1,2],[1,2,4,1,1,2],[1,2,4,2,1,1],[4,1,1,2,1,2],[4,2,1,1,1,2],[4,2,1,2,1,1],[2,1,2,1,4,1],[2,1,4,1,2,1],[4,1,2,1,2,1],[1,1,1,1,4,3],[1,1,1,3,4,1],[1,3,1,1,4,1],[1,1,4,1,1,3],[1,1,4,3,1,1],[4,1,1,1,1,3],[4,1,1,3,1,1],[1,1,3,1,4,1],[1,1,4,1,3,1],[3,1,1,1,4,1],[4,1,1,1,3,1],[2,1,1,4,1,2],[2,1,1,2,1,4],[2,1,1,2,3,2]]
def Wr:List Int:=[2,3,3,1,1,1,2]
def valOf(w:List Int):Option Nat:=Gu.findIdx? λp=>p==w
def valsGo:Nat->List Int->Option (List Int)
 |0,_=>some []
 |n+1,w=>match valOf (w.take 6)with
  |none=>none
  |some v=>(valsGo n (w.drop 6)).map λl=>(v:Int)::l
def chOf(v:Int)(set:Nat):Int:=if set=0/\64<=v then v-64 else v+32
def stepC(set:Nat)(sh:Bool)(v:Int):Option (Nat×Bool×List Int):=
 if sh then(if 95<v then none else some (set,false,[chOf v (1-set)]))
 else if 102<v then none
 else if v=102 then some (set,false,[256])
 else if set=2/\v<=99 then some (set,false,[48+v/10,48+v%10])
 else if v<=95 then some (set,false,[chOf v set])
 else if v=96 then some (set,false,[258])
 else if v=97 then some (set,false,[257])
 else if v=98 then some (set,true,[])
 else if v=99 then some (2,false,[])
 else if v=100/\set≠1 then some (1,false,[])
 else if v=101/\set≠0 then some (0,false,[])
 else some (set,false,[259])
def runC:Nat->Bool->List Int->List Int->Option (List Int)
 |_,sh,out,[]=>if sh then none else some out
 |set,sh,out,v::r=>match stepC set sh v with
  |none=>none
  |some (s',h',o)=>runC s' h' (out++o) r
def chkGo:Nat->Int->List Int->Int
 |_,s,[]=>s
 |i,s,v::r=>chkGo (i+1) ((s+(i:Int)*v)%103) r
def Bk(vs:List Int):Int:=chkGo 0 (vs.getD 0 0) vs
def chars(vs:List Int):List Int×Int:=
 if vs.any (λv=>decide (v<0) || decide (106<v))then([],3)
 else if vs.length<3 then([],7)
 else if vs.getD 0 0<103\/105<vs.getD 0 0 then([],19)
 else if vs.getD (vs.length-1) 0≠106 then([],20)
 else if vs.getD (vs.length-2) 0≠Bk (vs.take (vs.length-2))then([],8)
 else match runC (vs.getD 0 0-103).toNat false [] ((vs.take (vs.length-2)).drop 1)with
  |none=>([],22)
  |some o=>(o,0)
def dec(row:List Bool):List Int×Int:=
 if Rn.core row=[]then([],5)
 else if Ea.ldg row<10\/Ea.Ac row<10 then([],9)
 else if(Rn.widths row).length<19\/((Rn.widths row).length-7)%6≠0 then([],7)
 else if(Rn.widths row).drop ((Rn.widths row).length-7)≠Wr then([],20)
 else match valsGo (((Rn.widths row).length-7)/6) (Rn.widths row)with
  |none=>([],18)
  |some vs=>chars (vs++[106])
end Cc
end
end Go.Proofs.Enc
