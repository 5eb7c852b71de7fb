/-
  Laid.
-/
import Derived.Test.YtbngggoccndefaaGreatDoorRt00
import Derived.Test.YtbngggoccndefaaGreatDoorProg
set_option maxHeartbeats 8000000
set_option maxRecDepth 100000
set_option linter.all false
namespace Go.Proofs.YtbngggoccndefaaGreatDoor
open Go.Proofs.Tryz
section
open Go.RowKit
def Ext (w w':World):Prop:=Below w.heap.size w w'
theorem Ext.refl (w:World):Ext w w:=R9 _ _
theorem Ext.trans {a b c:World} (h:Ext a b) (k:Ext b c):Ext a c:=W7 h (Below.mono k (Below.size h))
theorem Ext.alloc {a w:World} (h:Ext a w) (o:Obj):Ext a (w.alloc o):=Below.alloc h (Below.size h) o
theorem Ext.drew {a w:World} (h:Ext a w):Ext a w.drew:=Below.drew h
theorem Ext.size {a w:World} (h:Ext a w):a.heap.size<=w.heap.size:=Below.size h
theorem Ext.cell {a w:World} (h:Ext a w) {p:Addr} (hp:p.block<a.heap.size):w.cell? p=a.cell? p:=Below.cell h hp
theorem Ext.frozen {a w:World} (h:Ext a w) {p:Addr} (hp:p.block<a.heap.size):w.frozen? p=a.frozen? p:=Below.frozen h hp
theorem Ext.setCell {a w:World} (h:Ext a w) {p:Addr} (hp:a.heap.size<=p.block) (u:Value):Ext a (w.setCell p u):=Below.setCell h hp u
theorem Ext.drewN {a w:World} (h:Ext a w) (n:Nat):Ext a (w.drewN n):=⟨h.os,h.tape,h.output,h.size,h.block⟩
structure Zr (w:World)where
 at':World
 ext:Ext w at'
instance (w:World):Nonempty (Zr w):=⟨⟨w,Ext.refl _⟩⟩
theorem Zr.drawn (w:World):∃x:Zr w,{w with drawn:=w.drawn+1}=x.at':=⟨⟨w.drew,(Ext.refl _).drew⟩,rfl⟩
theorem Zp {P:Program} {f:FuncId} {args:Array Value} {w:World} {x:Zr w} {v:Value}
 (h:Calls P f args x.at' fun e w'=>e=.returned v∧Ext x.at' w'):Calls P f args x.at' fun e w''=>e=.returned v∧∃y:Zr w,w''=y.at':=
 h.mono fun _ w' ⟨he,hw⟩=>⟨he,⟨w',x.ext.trans hw⟩,rfl⟩
theorem Z3 {k:IntKind} {a b:Int} (h:a=b):Ending.returned (.int k a)=.returned (.int k b):=by rw[h]
theorem Zm {a b:Bool} (h:a=b):Ending.returned (.bool a)=.returned (.bool b):=by rw[h]
theorem YX {a b:ByteArray} (h:a=b):Ending.returned (.string a)=.returned (.string b):=by rw[h]
theorem ZP (s:ByteArray) (k:Nat) (h:k<s.size):s.data.toList.take (k+1)=s.data.toList.take k++[s[k]]:=by rw[NH A6];rfl
theorem TW (s:ByteArray) (k:Nat) (h:k<s.size):s.data.toList.drop k=s[k]::s.data.toList.drop (k+1):=by rw[G4 A6];rfl
theorem Za (s:ByteArray):s.data.toList.length=s.size:=VB
theorem TY (s:ByteArray):s.data.toList.drop s.size=[]:=J5 (by rw[Za];exact I0 _)
theorem ZI (s:ByteArray):s.data.toList.take s.size=s.data.toList:=P1 (by rw[Za];exact I0 _)
theorem S9 (s:ByteArray) (k:Nat):(s.data.toList.drop k).length=s.size-k:=by rw[L2,Za]
theorem VC (s:ByteArray) (k:Nat) (h:k<=s.size):(s.data.toList.take k).length=k:=by rw[L1,Za];omega
theorem Zq (s:ByteArray) (k:Nat) (h:k<s.size):s[k]∈s.data.toList:=by have:s[k]=s.data.toList[k]' VD:=rfl;rw[this];exact K4 _
theorem Zz (s:ByteArray) (n:Nat):(s.extract 0 n).data.toList=s.data.toList.take n:=by rw[Lib.extract_data];simp
theorem ZG (s:ByteArray) (n:Nat):(s.extract n s.size).data.toList=s.data.toList.drop n:=Lib.extract_to_end s n
theorem Z0 (s:ByteArray) (a b:Nat):(s.extract a b).data.toList=(s.data.toList.drop a).take (b-a):=Lib.extract_data s a b
theorem Zc {s:ByteArray} {l:List UInt8} (h:s.data.toList=l):s.size=l.length:=by rw[<-h,Za]
theorem Z7 {a b:ByteArray} (h:a.data.toList=b.data.toList):a=b:=by cases a;cases b;congr 1;exact Array.toList_inj.1 h
theorem Zt (s:ByteArray):(⟨s.data.toList.toArray⟩:ByteArray)=s:=by cases s;simp
theorem Xe {w w':World} (h:Ext w w':=by repeat(first|exact Ext.refl _|assumption|refine Ext.alloc ?_ _|refine Ext.drew ?_|refine Ext.trans ?_ (by assumption))):Ext w w':=h
theorem Xf {w w':World} (h:Ext w w':=by repeat(first|exact Ext.refl _|assumption|refine Ext.alloc ?_ _|refine Ext.drew ?_|refine Ext.drewN ?_ _|refine Ext.setCell ?_ (I0 _) _|refine Ext.trans ?_ (by assumption))):Ext w w':=h
end
section
namespace Cd
def dg (c:UInt8):Int:=(c.toNat:Int)-48
def isDig (c:Int):Bool:=decide (48<=c)&&decide (c<=57)
def AllDig (l:List UInt8):Prop:=∀c∈l,48<=c.toNat∧c.toNat<=57
def syms:List UInt8:=[48,49,50,51,52,53,54,55,56,57,65,66,67,68,69,70,71,72,73,74,75,76,77,78,79,80,81,82,83,84,85,86,87,88,89,90,45,46,32,36,47,43,37]
def plc (c:UInt8):Int:=Lib.indexByte syms c
theorem dg_bd {c:UInt8} (h:48<=c.toNat∧c.toNat<=57):0<=dg c∧dg c<=9:=by unfold dg;omega
theorem allDig_drop {l:List UInt8} (h:AllDig l) (k:Nat):AllDig (l.drop k):=fun c hc=>h c (X7 hc)
theorem allDig_take {l:List UInt8} (h:AllDig l) (k:Nat):AllDig (l.take k):=fun c hc=>h c (L5 hc)
def gsP:List UInt8->Int×Int
 | []=>(0,3)
 |c::l=>((gsP l).1+(gsP l).2*dg c,4-(gsP l).2)
theorem gsP_w (l:List UInt8):(gsP l).2=if l.length%2=0 then 3 else 1:=by
 induction l with
 |nil=>rfl
 |cons c l ih=>simp only[gsP,ih,S0];split<;>split<;>omega
theorem gsP_bd (l:List UInt8) (h:AllDig l):0<=(gsP l).1∧(gsP l).1<=27*l.length:=by
 induction l with
 |nil=>simp[gsP]
 |cons c l ih=>have h1:=ih (fun x hx=>h x (C1 _ hx));have h2:=dg_bd (h c (B1 ..));have h3:=gsP_w l;simp only[gsP,S0];split at h3<;>rw[h3]<;>omega
def dbl (x:Int):Int:=if 2*x>9 then 2*x-9 else 2*x
theorem dbl_hi (x:Int) (h:9<x*2):dbl x=x*2-9:=by unfold dbl;rw[G0 C0];omega
theorem dbl_lo (x:Int) (h:¬9<x*2):dbl x=x*2:=by unfold dbl;rw[D0 C0];omega
def lnP:List UInt8->Int×Bool
 | []=>(0,true)
 |c::l=>((lnP l).1+(if(lnP l).2 then dbl (dg c)else dg c),!(lnP l).2)
theorem lnP_bd (l:List UInt8) (h:AllDig l):0<=(lnP l).1∧(lnP l).1<=9*l.length:=by
 induction l with
 |nil=>simp[lnP]
 |cons c l ih=>have h1:=ih (fun x hx=>h x (C1 _ hx));have h2:=dg_bd (h c (B1 ..));simp only[lnP,S0];unfold dbl;split;(·exact L6);·omega
def isb:List UInt8->Int
 | []=>0
 |c::l=>isb l+((l.length:Int)+2)*dg c
def permL:List Int:=[1,5,7,6,2,8,3,0,9,4]
def perm (x:Int):Int:=permL.getD x.toNat 0
def permN:Nat->Int->Int
 |0,x=>x
 |n+1,x=>perm (permN n x)
def dih (a b:Int):Int:=if a<5 then(if b<5 then(a+b)%5 else 5+(a+b-5)%5)else(if b<5 then 5+(a-b)%5 else(a-b+5)%5)
def vh:List UInt8->Int
 | []=>0
 |c::l=>dih (vh l) (permN (l.length+1) (dg c))
def inv (c:Int):Int:=if c<5 then(5-c)%5 else c
def dmT:List (List UInt8):=[[48,51,49,55,53,57,56,54,52,50],[55,48,57,50,49,53,52,56,54,51],[52,50,48,54,56,55,49,51,53,57],[49,55,53,48,57,56,51,52,50,54],[54,49,50,51,48,52,53,57,55,56],[51,54,55,52,50,48,57,53,56,49],[53,56,54,57,55,50,48,49,51,52],[56,57,52,53,51,54,50,48,49,55],[57,52,51,56,54,49,55,50,48,53],[50,53,56,49,52,51,54,55,57,48]]
def dmAt (c x:Int):Int:=dg ((dmT.getD c.toNat []).getD x.toNat 48)
def dm (l:List UInt8):Int:=l.foldl (fun c x=>dmAt c (dg x)) 0
def i97 (l:List UInt8):Int:=l.foldl (fun r c=>(10*r+dg c)%97) 0
def i11 (l:List UInt8):Int:=l.foldl (fun p c=>2*(p+dg c)%11) 0
def c39 (l:List UInt8):Int:=(l.map plc).foldl (·+·) 0
def chr (v:Int):UInt8:=if v=10 then 88 else UInt8.ofNat (48+v.toNat)
def cmp (k:Nat) (l:List UInt8):List UInt8:=
 match k with
 |1=>[chr ((10-(gsP l).1%10)%10)]
 |2=>[chr ((10-(lnP l).1%10)%10)]
 |3=>[chr ((11-isb l%11)%11)]
 |4=>[chr (inv (vh l))]
 |5=>[chr (dm l)]
 |6=>[chr ((98-100*i97 l%97)/10),chr ((98-100*i97 l%97)%10)]
 |7=>[syms.getD (c39 l%43).toNat 48]
 |8=>[chr ((12-i11 l)%11)]
 |_=>[]
def size (k:Nat):Nat:=if k=6 then 2 else 1
def datB (k:Nat) (c:Int):Bool:=if k=7 then decide (0<=plc c.toNat.toUInt8)else isDig c
def chkB (k:Nat) (c:Int):Bool:=if k=7 then decide (0<=plc c.toNat.toUInt8)else if k=3∨k=8 then(isDig c || (c==88))else isDig c
def fits (k:Nat) (n:Nat):Bool:=if k=3 then n==10 else decide (size k<n)
def ver (k:Nat) (l:List UInt8):Int:=
 if 4096<l.length then 4
 else if fits k l.length=false then 7
 else if(l.take (l.length-size k)).all (fun c=>datB k c.toNat)=false then 6
 else if(l.drop (l.length-size k)).all (fun c=>chkB k c.toNat)=false then 6
 else if cmp k (l.take (l.length-size k))=l.drop (l.length-size k)then 0 else 8
def verI (k:Int) (l:List UInt8):Int:=if k<1∨8<k then 1 else ver k.toNat l
def comp (k:Nat) (l:List UInt8):List UInt8×Int:=
 if l=[]then([],5)
 else if 4096<l.length then([],4)
 else if l.all (fun c=>datB k c.toNat)=false then([],6)
 else if fits k (l.length+size k)=false then([],7)
 else(cmp k l,0)
def compI (k:Int) (l:List UInt8):List UInt8×Int:=if k<1∨8<k then([],1)else comp k.toNat l
theorem size_bd (k:Nat):1<=size k∧size k<=2:=by unfold size;exact L6
theorem fits_lt (k n:Nat) (h:fits k n=true):size k<n:=by
 unfold fits at h;split at h;·rename_i h3;subst h3;have:n=10:=A6;subst this;decide
 ·simpa using h
theorem fits_isbn (n:Nat) (h:fits 3 n=true):n=10:=by simpa[fits]using h
theorem foldl_snoc {α β:Type} (f:β->α->β) (b:β) (l:List α) (x:α):(l++[x]).foldl f b=f (l.foldl f b) x:=by simp
theorem perm_bd (x:Int):0<=perm x∧perm x<=9:=by
 unfold perm
 generalize x.toNat=n
 match n with
 |0=>decide
 |1=>decide
 |2=>decide
 |3=>decide
 |4=>decide
 |5=>decide
 |6=>decide
 |7=>decide
 |8=>decide
 |9=>decide
 |n+10=>simp[permL]
theorem permN_bd (n:Nat) (x:Int) (h:0<=x∧x<=9):0<=permN n x∧permN n x<=9:=by
 cases n with
 |zero=>exact h
 |succ n=>exact perm_bd _
theorem dih_bd (a b:Int) (_ha:0<=a∧a<=9) (_hb:0<=b∧b<=9):0<=dih a b∧dih a b<=9:=by unfold dih;split<;>split<;>omega
theorem vh_bd (l:List UInt8) (h:AllDig l):0<=vh l∧vh l<=9:=by
 induction l with
 |nil=>simp[vh]
 |cons c l ih=>exact dih_bd _ _ (ih (fun x hx=>h x (C1 _ hx))) (permN_bd _ _ (dg_bd (h c (B1 ..))))
theorem isb_bd (l:List UInt8) (h:AllDig l) (hl:l.length<=9):0<=isb l∧isb l<=99*l.length:=by
 induction l with
 |nil=>simp[isb]
 |cons c l ih=>simp only[S0]at hl;have h1:=ih (fun x hx=>h x (C1 _ hx)) C0;have h2:=dg_bd (h c (B1 ..));simp only[isb,S0];have h3:0<=((l.length:Int)+2)*dg c:=O8 C0 h2.1;have h4:((l.length:Int)+2)*dg c<=11*9:=T9 C0 h2.2 h2.1 C0;omega
theorem foldl_inv {α:Type} (f:Int->α->Int) (P:Int->Prop) (l:List α) (b:Int) (hb:P b) (hs:∀p c,P p->P (f p c)):P (l.foldl f b):=by
 induction l generalizing b with
 |nil=>exact hb
 |cons c l ih=>exact ih _ (hs _ _ hb)
theorem dmAt_bd (c x:Int):0<=c∧c<=9->0<=x∧x<=9->0<=dmAt c x∧dmAt c x<=9:=by
 intro hc hx;obtain⟨c,rfl⟩:=B6 hc.1;obtain⟨x,rfl⟩:=B6 hx.1;have h:∀(c:Fin 10) (x:Fin 10),0<=dmAt (c.1:Int) (x.1:Int)∧dmAt (c.1:Int) (x.1:Int)<=9:=by decide
 exact h ⟨c,by omega⟩ ⟨x,by omega⟩
theorem dm_bd (l:List UInt8) (h:AllDig l):0<=dm l∧dm l<=9:=by
 have:∀(l:List UInt8) (b:Int),AllDig l->0<=b∧b<=9->0<=l.foldl (fun c x=>dmAt c (dg x)) b∧l.foldl (fun c x=>dmAt c (dg x)) b<=9:=by
  intro l
  induction l with
  |nil=>intro b _ hb;exact hb
  |cons c l ih=>intro b h hb;exact ih _ (fun x hx=>h x (C1 _ hx)) (dmAt_bd _ _ hb (dg_bd (h c (B1 ..))))
 exact this l 0 h C0
theorem i97_bd (l:List UInt8):0<=i97 l∧i97 l<=96:=foldl_inv _ (fun p=>0<=p∧p<=96) l 0 C0 (fun p c hp=>by omega)
theorem i11_bd (l:List UInt8):0<=i11 l∧i11 l<=10:=foldl_inv _ (fun p=>0<=p∧p<=10) l 0 C0 (fun p c hp=>by omega)
theorem plc_bd (c:UInt8): -1<=plc c∧plc c<=42:=by
 have h:∀(l:List UInt8),-1<=Lib.indexByte l c∧Lib.indexByte l c<(l.length:Int):=by
  intro l
  induction l with
  |nil=>simp[Lib.indexByte]
  |cons b l ih=>simp only[Lib.indexByte,S0];split;(·omega);·exact L6
 have:=h syms;have e:(syms.length:Int)=43:=rfl;unfold plc;omega
theorem c39_bd (l:List UInt8) (h:∀c∈l,0<=plc c):0<=c39 l∧c39 l<=42*l.length:=by
 have:∀(l:List UInt8) (b:Int),(∀c∈l,0<=plc c)->b<=(l.map plc).foldl (·+·) b∧(l.map plc).foldl (·+·) b<=b+42*l.length:=by
  intro l
  induction l with
  |nil=>intro b _;simp
  |cons c l ih=>intro b h;have h1:=ih (b+plc c) (fun x hx=>h x (C1 _ hx));have h2:=plc_bd c;have h3:=h c (B1 ..);simp only[Y4,I3,S0];omega
 have:=this l 0 h;unfold c39;omega
theorem inv_bd (c:Int) (_h:0<=c∧c<=9):0<=inv c∧inv c<=9:=by unfold inv;exact L6
theorem dih_inv (c:Int) (_h:0<=c∧c<=9):dih (inv c) c=0:=by
 unfold dih inv
 repeat' split
 all_goals omega
theorem dih_inv_only (c e:Int) (h:0<=c∧c<=9) (he:0<=e∧e<=9) (h0:dih e c=0):e=inv c:=by unfold dih at h0;unfold inv;split at h0<;>split at h0<;>split<;>omega
theorem dec1:∀i:Fin 10,Lib.decDigits i.1=[UInt8.ofNat (48+i.1)]:=by intro i;rw[Lib.decDigits];simp
theorem dec_chr (v:Nat) (h:v<10):Lib.decDigits v=[chr (v:Int)]:=by rw[dec1 ⟨v,h⟩,chr,D0 C0];simp
end Cd
namespace Ea
def size (k:Int):Nat:=if k=1 then 13 else if k=2 then 8 else if k=3 then 12 else if k=4 then 8 else 0
def digs (l:List UInt8):Bool:=l.all (fun c=>Cd.isDig c.toNat)
def exp7 (l:List UInt8):List UInt8:=
 if l.getD 6 0<=50 then l.take 3++(l.drop 6).take 1++[48,48,48,48]++(l.drop 3).take 3
 else if l.getD 6 0=51 then l.take 4++[48,48,48,48,48]++(l.drop 4).take 2
 else if l.getD 6 0=52 then l.take 5++[48,48,48,48,48]++(l.drop 5).take 1
 else l.take 6++[48,48,48,48]++(l.drop 6).take 1
def exp8 (l:List UInt8):List UInt8:=exp7 (l.take 7)++l.drop 7
def chk (l:List UInt8):UInt8:=Cd.chr ((10-(Cd.gsP l).1%10)%10)
def chkOf (k:Int) (l:List UInt8):UInt8:=if k=4 then chk (exp7 l)else chk l
def comp (k:Int) (l:List UInt8):List UInt8×Int:=
 if size k=0 then([],1)
 else if digs l=false then([],6)
 else if l.length≠size k∧l.length+1≠size k then([],7)
 else if k=4∧49<l.getD 0 0 then([],9)
 else if l.length=size k∧l≠l.take (size k-1)++[chkOf k (l.take (size k-1))]then([],8)
 else(l.take (size k-1)++[chkOf k (l.take (size k-1))],0)
def full (k:Int) (l:List UInt8):Int:=if size k≠0∧digs l=true∧l.length+1=size k then 7 else(comp k l).2
def bits (l:List Nat):List Bool:=l.map (fun x=>x==1)
def tab:List (List (List Bool)):=[
 [bits [0,0,0,1,1,0,1],bits [0,0,1,1,0,0,1],bits [0,0,1,0,0,1,1],bits [0,1,1,1,1,0,1],bits [0,1,0,0,0,1,1],bits [0,1,1,0,0,0,1],bits [0,1,0,1,1,1,1],bits [0,1,1,1,0,1,1],bits [0,1,1,0,1,1,1],bits [0,0,0,1,0,1,1]],
 [bits [0,1,0,0,1,1,1],bits [0,1,1,0,0,1,1],bits [0,0,1,1,0,1,1],bits [0,1,0,0,0,0,1],bits [0,0,1,1,1,0,1],bits [0,1,1,1,0,0,1],bits [0,0,0,0,1,0,1],bits [0,0,1,0,0,0,1],bits [0,0,0,1,0,0,1],bits [0,0,1,0,1,1,1]],
 [bits [1,1,1,0,0,1,0],bits [1,1,0,0,1,1,0],bits [1,1,0,1,1,0,0],bits [1,0,0,0,0,1,0],bits [1,0,1,1,1,0,0],bits [1,0,0,1,1,1,0],bits [1,0,1,0,0,0,0],bits [1,0,0,0,1,0,0],bits [1,0,0,1,0,0,0],bits [1,1,1,0,1,0,0]]]
def modl (t d:Nat):List Bool:=(tab.getD t []).getD d []
def gd:List Bool:=bits [1,0,1]
def md:List Bool:=bits [0,1,0,1,0]
def eE:List Bool:=bits [0,1,0,1,0,1]
def sA:List Bool:=bits [1,0,1,1]
def gA:List Bool:=bits [0,1]
def lgt (n:Nat):List Bool:=List.replicate n false
def setsL:List (List Nat):=[[0,0,0,0,0,0],[0,0,1,0,1,1],[0,0,1,1,0,1],[0,0,1,1,1,0],[0,1,0,0,1,1],[0,1,1,0,0,1],[0,1,1,1,0,0],[0,1,0,1,0,1],[0,1,0,1,1,0],[0,1,1,0,1,0]]
def setsE0:List (List Nat):=[[1,1,1,0,0,0],[1,1,0,1,0,0],[1,1,0,0,1,0],[1,1,0,0,0,1],[1,0,1,1,0,0],[1,0,0,1,1,0],[1,0,0,0,1,1],[1,0,1,0,1,0],[1,0,1,0,0,1],[1,0,0,1,0,1]]
def sets13 (d:Nat):List Nat:=setsL.getD d []
def setsE (s c:Nat):List Nat:=if s=0 then setsE0.getD c []else(setsE0.getD c []).map (fun x=>1-x)
def setsA2:List (List Nat):=[[0,0],[0,1],[1,0],[1,1]]
def setsA5:List (List Nat):=[[1,1,0,0,0],[1,0,1,0,0],[1,0,0,1,0],[1,0,0,0,1],[0,1,1,0,0],[0,0,1,1,0],[0,0,0,1,1],[0,1,0,1,0],[0,1,0,0,1],[0,0,1,0,1]]
def dv (l:List UInt8) (i:Nat):Nat:=(l.getD i 48).toNat-48
def setsAdd (l:List UInt8):List Nat:=
 if l.length=2 then setsA2.getD ((10*dv l 0+dv l 1)%4) []
 else setsA5.getD ((3*(dv l 0+dv l 2+dv l 4)+9*(dv l 1+dv l 3))%10) []
def drw (sep:List Bool):List UInt8->List Nat->List Bool
 | [],_=>[]
 |_,[]=>[]
 | [c],t::_=>modl t (c.toNat-48)
 |c::d::l,t::ts=>modl t (c.toNat-48)++sep++drw sep (d::l) ts
def sym13 (l:List UInt8):List Bool:=gd++drw [] ((l.drop 1).take 6) (sets13 (dv l 0))++md++drw [] (l.drop 7) [2,2,2,2,2,2]++gd
def sym8 (l:List UInt8):List Bool:=gd++drw [] (l.take 4) [0,0,0,0]++md++drw [] (l.drop 4) [2,2,2,2]++gd
def symE (l:List UInt8):List Bool:=gd++drw [] ((l.drop 1).take 6) (setsE (dv l 0) (dv l 7))++eE
def sym (k:Int) (l:List UInt8):List Bool:=if k=3 then sym13 (48::l)else if k=1 then sym13 l else if k=2 then sym8 l else symE l
def addn (l:List UInt8):List Bool:=sA++drw gA l (setsAdd l)
def lq (k:Int):Nat:=if k=1 then 11 else if k=2 then 7 else 9
def rq (k:Int):Nat:=if k=3 then 9 else 7
def enc (k:Int) (l a:List UInt8):List Bool×Int:=
 if full k l≠0 then([],full k l)
 else if digs a=false then([],6)
 else if a.length≠0∧a.length≠2∧a.length≠5 then([],7)
 else if a.length=0 then(lgt (lq k)++sym k l++lgt (rq k),0)
 else(lgt (lq k)++sym k l++lgt 9++addn a++lgt 7,0)
def idx {α:Type} [DecidableEq α]:List α->α->Option Nat
 | [],_=>none
 |x::l,y=>if x=y then some 0 else(idx l y).map (·+1)
def lookT (t:Nat) (m:List Bool):Option Nat:=idx (tab.getD t []) m
def look (both:Bool) (t:Nat) (m:List Bool):Option (Nat×Nat):=
 if both=true then(match lookT 1 m with
  |some d=>some (d,1)
  |none=>(lookT 0 m).map (fun d=>(d,0)))
 else(lookT t m).map (fun d=>(d,t))
def rcg (both:Bool) (t gap:Nat):Nat->List Bool->Option (List UInt8×List Nat)
 |0,_=>some ([],[])
 |n+1,s=>match look both t (s.take 7)with
  |none=>none
  |some (d,u)=>match rcg both t gap n (s.drop (7+gap))with
   |none=>none
   |some (ds,us)=>some (UInt8.ofNat (48+d)::ds,u::us)
def find13 (u:List Nat):Option Nat:=idx setsL u
def findE (u:List Nat):Option (Nat×Nat):=match idx setsE0 u with
 |some c=>some (0,c)
 |none=>(idx (setsE0.map (fun l=>l.map (fun x=>1-x))) u).map (fun c=>(1,c))
def chr (d:Nat):UInt8:=UInt8.ofNat (48+d)
def rd13 (s:List Bool):Option (List UInt8):=match rcg true 0 0 6 (s.drop 3),rcg false 2 0 6 (s.drop 50)with
 |some (l,u),some (r,_)=>if(s.drop 45).take 5=md then(find13 u).map (fun d=>chr d::(l++r))else none
 |_,_=>none
def rd8 (s:List Bool):Option (List UInt8):=match rcg false 0 0 4 (s.drop 3),rcg false 2 0 4 (s.drop 36)with
 |some (l,_),some (r,_)=>if(s.drop 31).take 5=md then some (l++r)else none
 |_,_=>none
def rdE (s:List Bool):Option (List UInt8):=match rcg true 0 0 6 (s.drop 3)with
 |some (l,u)=>(findE u).map (fun p=>chr p.1::(l++[chr p.2]))
 |none=>none
def kindOf (n:Nat):Int:=if n=95 then 1 else if n=67 then 2 else 4
def rdK (n:Nat) (s:List Bool):Option (List UInt8):=if n=95 then rd13 s else if n=67 then rd8 s else rdE s
def stp (n:Nat):List Bool:=if n=51 then eE else gd
def rdSym (n:Nat) (s:List Bool):(Int×List UInt8)×Int:=
 if s.take 3≠gd then((0,[]),19)
 else if s.drop (n-(stp n).length)≠stp n then((0,[]),20)
 else match rdK n s with
  |none=>((0,[]),18)
  |some l=>if full (kindOf n) l≠0 then((0,[]),8)
   else if n=95∧l.getD 0 0=48 then((3,l.drop 1),0)else((kindOf n,l),0)
def rdAdd (n:Nat) (s:List Bool):List UInt8×Int:=
 if s.take 4≠sA then([],19)
 else if(List.range (n-1)).all (fun i=>(s.drop (11+9*i)).take 2==gA)=false then([],18)
 else match rcg true 0 2 n (s.drop 4)with
  |none=>([],18)
  |some (l,u)=>if setsAdd l≠u then([],8)else(l,0)
def wAdd (n:Nat):Nat:=if n=0 then 0 else if n=2 then 20 else 47
def fits (s:List Bool) (n a:Nat):Bool:=
 if a=0 then s.length==n else decide (n+wAdd a+7<=s.length)&&decide (s.length<=n+wAdd a+12)&&((s.drop n).take (s.length-n-wAdd a)).all (fun b=> !b)
abbrev Got:=(Int×List UInt8×List UInt8)×Int
def rdShape (s:List Bool) (n a:Nat):Got:=
 if(rdSym n (s.take n)).2≠0 then((0,[],[]),(rdSym n (s.take n)).2)
 else if a=0 then(((rdSym n (s.take n)).1.1,(rdSym n (s.take n)).1.2,[]),0)
 else if(rdAdd a (s.drop (s.length-wAdd a))).2≠0 then((0,[],[]),(rdAdd a (s.drop (s.length-wAdd a))).2)
 else(((rdSym n (s.take n)).1.1,(rdSym n (s.take n)).1.2,(rdAdd a (s.drop (s.length-wAdd a))).1),0)
def shapes:List (Nat×Nat):=[(95,0),(95,2),(95,5),(67,0),(67,2),(67,5),(51,0),(51,2),(51,5)]
def decF (s:List Bool):Int->List (Nat×Nat)->Got
 |e,[]=>((0,[],[]),e)
 |e,(n,a)::l=>if fits s n a=false then decF s e l
  else if(rdShape s n a).2=0 then rdShape s n a
  else decF s (if e=7 then(rdShape s n a).2 else e) l
def ldg:List Bool->Nat
 | []=>0
 |b::l=>if b then 0 else ldg l+1
def trl (s:List Bool):Nat:=ldg s.reverse
def dec (s:List Bool):Got:=
 if 65536<s.length then((0,[],[]),4)
 else if ldg s=s.length then((0,[],[]),5)
 else if ldg s<7∨trl s<7 then((0,[],[]),9)
 else decF ((s.drop (ldg s)).take (s.length-trl s-ldg s)) 7 shapes
end Ea
namespace Tw
def cutAt (ps:List UInt8) (z i:Nat):List UInt8:=(ps.drop (i*z)).take z
def pat (cs ps:List UInt8) (z:Nat) (c:UInt8):List UInt8×Bool:=
 if Lib.indexByte cs c<0 then([],false)else(cutAt ps z (Lib.indexByte cs c).toNat,true)
def chr (cs ps:List UInt8) (z:Nat) (p:List UInt8):UInt8×Bool:=
 match(List.range cs.length).find? (fun i=>cutAt ps z i==p)with
 |some i=>(cs.getD i 0,true)
 |none=>(0,false)
theorem chr_at (cs ps:List UInt8) (z:Nat) (p:List UInt8) (j:Nat) (hj:j<cs.length) (h:cutAt ps z j=p) (hb:∀i,i<j->cutAt ps z i≠p):chr cs ps z p=(cs.getD j 0,true):=by
 have:(List.range cs.length).find? (fun i=>cutAt ps z i==p)=some j:=EF
 unfold chr;rw[this]
theorem chr_none (cs ps:List UInt8) (z:Nat) (p:List UInt8) (hb:∀i,i<cs.length->cutAt ps z i≠p):chr cs ps z p=(0,false):=by
 have:(List.range cs.length).find? (fun i=>cutAt ps z i==p)=none:=EG
 unfold chr;rw[this]
def only (l cs:List UInt8):Bool:=l.all fun c=>decide (0<=Lib.indexByte cs c)
def counts (z least most:Nat) (n:Nat) (check:Bool):Bool:=
 decide ((n+1)%(z+1)=0)&&decide (least+2+check.toNat<=(n+1)/(z+1))&&decide ((n+1)/(z+1)<=most+2+check.toNat)
def comp39 (l:List UInt8) (check:Bool):List UInt8×Int:=
 if only l Cd.syms=false then([],6)
 else if check=false then(42::l++[42],0)
 else if(Cd.compI 7 l).2=0 then(42::l++(Cd.compI 7 l).1++[42],0)else([],(Cd.compI 7 l).2)
def text39 (l:List UInt8) (check:Bool):List UInt8:=(l.drop 1).take (l.length-2-check.toNat)
end Tw
end
end Go.Proofs.YtbngggoccndefaaGreatDoor
