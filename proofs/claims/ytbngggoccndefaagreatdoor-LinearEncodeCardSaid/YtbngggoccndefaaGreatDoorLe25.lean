/-
  Laid.
-/
import Derived.Test.YtbngggoccndefaaGreatDoorLe13
import Derived.Test.YtbngggoccndefaaGreatDoorLe24
import Derived.Handy
set_option maxHeartbeats 8000000
set_option maxRecDepth 100000
set_option linter.all false
namespace Go.Proofs.Enc
open Go.Proofs.Tryz
section
open Go.RowKit
def shC(q:List Hp.Sh):List Value:=q.flatMap λx=>[.int .i64 x.ix,.int .i64 x.md,.int .i64 x.ct]
def DR:∀(q:List Hp.Sh)(i:Nat)(x:Hp.Sh),q[i]? =some x->(shC q)[i*3]? =some (.int .i64 x.ix)/\(shC q)[i*3+1]? =some (.int .i64 x.md)/\(shC q)[i*3+2]? =some (.int .i64 x.ct):=by
 intro q
 induction q with
 |nil=>intro i x h;simp at h
 |cons y q ih=>
  intro i x h
  cases i with
  |zero=>simp only[List.getElem?_cons_zero,P2]at h;subst h;exact⟨rfl,rfl,rfl⟩
  |succ i=>rw[List.getElem?_cons_succ]at h;have:=ih i x h;have e1:(i+1)*3=i*3+1+1+1:=C0;rw[e1];simp only[shC,M7,C3,G4,List.getElem?_cons_succ]at this⊢;exact L3
def DS:∀(q:List Hp.Sh)(i:Nat)(x:Hp.Sh),shC (q.set i x)=(((shC q).set (i*3) (.int .i64 x.ix)).set (i*3+1) (.int .i64 x.md)).set (i*3+2) (.int .i64 x.ct):=by
 intro q
 induction q with
 |nil=>intro i x;rfl
 |cons y q ih=>
  intro i x
  cases i with
  |zero=>rfl
  |succ i=>have:=ih i x;have e1:(i+1)*3=i*3+1+1+1:=C0;rw[e1,O6];simp only[shC,M7,C3,G4,O6]at this⊢;rw[this]
def MJ{α:Type}{l:List α}{i:Nat}{x:α}(h:l[i]? =some x):l.set i x=l:=by
 apply Y8;intro k;by_cases e:i=k;·subst e;rw[XD (N1.1 h).1,h]
 .rw[XE e]
def QAt(w:World)(g:Nat)(q:List Hp.Sh):Prop:=w.heap[g]? =some (.cells (shC q).toArray 250 (0,0))
def QAt.at_{w:World}{g:Nat}{q:List Hp.Sh}(h:QAt w g q){i:Nat}{x:Hp.Sh}(hi:q[i]? =some x):
 w.cell? ⟨g,i*3,none⟩=some (.int .i64 x.ix)/\w.cell? ⟨g,i*3+1,none⟩=some (.int .i64 x.md)/\w.cell? ⟨g,i*3+2,none⟩=some (.int .i64 x.ct):=by
 obtain⟨h1,h2,h3⟩:=DR q i x hi;exact⟨Zv h YW,Zv h YU,Zv h (by simpa using h3)⟩
def QAt.Rs{w:World}{g:Nat}{q:List Hp.Sh}(h:QAt w g q)(i:Nat):w.frozen? ⟨g,i,none⟩=false:=ZX h
def QAt.lt{w:World}{g:Nat}{q:List Hp.Sh}(h:QAt w g q):g<w.heap.size:=(V3.1 h).1
def QAt.set{w:World}{g:Nat}{q:List Hp.Sh}(h:QAt w g q)(i:Nat)(x:Hp.Sh):QAt (((w.setCell ⟨g,i*3,none⟩ (.int .i64 x.ix)).setCell ⟨g,i*3+1,none⟩ (.int .i64 x.md)).setCell ⟨g,i*3+2,none⟩ (.int .i64 x.ct)) g (q.set i x):=by unfold QAt;rw[DS];have:=Zt (i:=i*3+2) (u:=.int .i64 x.ct) (Zt (i:=i*3+1) (u:=.int .i64 x.md) (Zt (i:=i*3) (u:=.int .i64 x.ix) h));rw[this];simp
def QAt.setMd{w:World}{g:Nat}{q:List Hp.Sh}(h:QAt w g q){i:Nat}{x:Hp.Sh}(hi:q[i]? =some x)(m:Int):QAt (w.setCell ⟨g,i*3+1,none⟩ (.int .i64 m)) g (q.set i ⟨x.ix,m,x.ct⟩):=by unfold QAt;obtain⟨h1,_,h3⟩:=DR q i x hi;rw[DS,Zt (i:=i*3+1) (u:=.int .i64 m) h];dsimp only;rw[MJ h1,List.set_comm _ _ C0,MJ h3];simp
def QAt.aH7{w:World}{g:Nat}{q:List Hp.Sh}(h:QAt w g q){i:Nat}{x:Hp.Sh}(hi:q[i]? =some x)(m:Int):QAt (w.setCell ⟨g,i*3+2,none⟩ (.int .i64 m)) g (q.set i ⟨x.ix,x.md,m⟩):=by unfold QAt;obtain⟨h1,h2,_⟩:=DR q i x hi;rw[DS,Zt (i:=i*3+2) (u:=.int .i64 m) h];dsimp only;rw[MJ h1,MJ h2];simp
def GB.setRow{g:Nat}{a w:World}(h:GB (some g) a w)(i:Nat)(u:Value):GB (some g) a (w.setCell ⟨g,i,none⟩ u):=h.trans (ZR w g i u)
def QAt.drew{w:World}{g:Nat}{q:List Hp.Sh}(h:QAt w g q):QAt w.drew g q:=h
def QAt.on{w w':World}{g:Nat}{q:List Hp.Sh}(h:QAt w g q)(hx:Ext w w'):QAt w' g q:=by unfold QAt;rw[hx.block g h.lt];exact h
def rF(a:Option Addr)(n c:Nat)(w:World):Calls prog 371 #[.slice a n c] w λe w'=>e=.returned (.int .i64 (n:Int))/\Ext w w':=by go_enter func371,ntmps371;go_wp2;go_ret;exact A7
def MK(g n i j:Nat)(q:List Hp.Sh)(x y:Hp.Sh)(w:World)(hq:QAt w g q)(hn:q.length=n)(hi:q[i]? =some x)(hj:q[j]? =some y)(hs:n<=1000000):
 Calls prog 372 #[.slice (some ⟨g,0,none⟩) n n,.int .i64 (i:Int),.int .i64 (j:Int)] w λe w'=>e=.returned (.bool (Hp.Cn x y))/\Ext w w':=by
 obtain⟨c0,c1,c2⟩:=hq.at_ hi;obtain⟨d0,d1,d2⟩:=hq.at_ hj;have Ev:=(N1.1 hi).1;have Du:=(N1.1 hj).1;rw[hn]at Ev Du;have Kl:(i:Int)<(n:Int):=by omega
 have Bx:(j:Int)<(n:Int):=by omega
 unfold Hp.Cn;obtain⟨x0,x1,x2⟩:=x;obtain⟨y0,y1,y2⟩:=y;dsimp only at c0 c1 c2 d0 d1 d2⊢;clear hq hn hi hj c1 d1;by_cases hc:x2=y2
 .rw[G0 hc];have z1:(x2 !=y2)=false:=(by simp[hc]);have z2:decide (x2=y2)=true:=C1 hc;exact rG
 .rw[D0 hc];have z1:(x2 !=y2)=true:=(by simp[hc]);have z2:decide (x2=y2)=false:=G1 hc;exact rG
def DT(g n i j:Nat)(q:List Hp.Sh)(x y:Hp.Sh)(w:World)(hq:QAt w g q)(hn:q.length=n)(hi:q[i]? =some x)(hj:q[j]? =some y)(Sp:i≠j)(hs:n<=1000000):
 Calls prog 373 #[.slice (some ⟨g,0,none⟩) n n,.int .i64 (i:Int),.int .i64 (j:Int)] w λe w'=>e=.returned (.tuple #[])/\QAt w' g (Hp.swap q i j)/\GB (some g) w w':=by
 obtain⟨c0,c1,c2⟩:=hq.at_ hi;obtain⟨d0,d1,d2⟩:=hq.at_ hj;have Ev:=(N1.1 hi).1;have Du:=(N1.1 hj).1;rw[hn]at Ev Du;have Kl:(i:Int)<(n:Int):=by omega
 have Bx:(j:Int)<(n:Int):=by omega
 have f0:=hq.Rs (i*3);have f1:=hq.Rs (i*3+1);have f2:=hq.Rs (i*3+2);have g0:=hq.Rs (j*3);have g1:=hq.Rs (j*3+1);have g2:=hq.Rs (j*3+2);go_enter func373,ntmps373;go_region;go_end0;have h1:=(hq.set i y).set j x;have e:(q.set i y).set j x=Hp.swap q i j:=by unfold Hp.swap;rw[hi,hj]
 rw[e]at h1;refine⟨rfl,?_,?_⟩
 .exact h1.drew
 .refine GB.drew ?_;(iterate 6 refine GB.setRow ?_ _ _);exact GB.refl w
def GB.cell{row:Option Nat}{a w:World}(h:GB row a w){p:Addr}(hp:p.block<a.heap.size)(k7:row≠some p.block):w.cell? p=a.cell? p:=by have:=World.grownBy.block h p.block hp (λe=>k7 e.symm);unfold World.cell?;rw[this]
def DU{w:World}{b:Nat}{a:Option Addr}{n c:Nat}(h:w.cell? ⟨b,0,none⟩=some (.slice a n c)):(loadVar 248 ⟨b,0,none⟩).run prog w=.ok (.slice a n c) w:=by simp[loadVar,go_sem,h]
def rH{w:World}{b:Nat}{a:Option Addr}{n c:Nat}(h:w.cell? ⟨b,0,none⟩=some (.slice a n c)):(method 505 252 (.pointer (some ⟨b,0,none⟩)) "Len").run prog w=.ok (371,.slice a n c) w:=by
 have h0:(method 505 252 (.pointer (some ⟨b,0,none⟩)) "Len").run prog w=(do let r<-loadVar 248 ⟨b,0,none⟩;pure (371,r):Sem (FuncId×Value)).run prog w:=D1;have h1:(do let r<-loadVar 248 ⟨b,0,none⟩;pure (371,r):Sem (FuncId×Value)).run prog w=((loadVar 248 ⟨b,0,none⟩).run prog w).andThen (λs w'=>.ok (371,s) w'):=by simp[go_sem]
 rw[h0,h1,DU h];rfl
def ML{w:World}{b:Nat}{a:Option Addr}{n c:Nat}(h:w.cell? ⟨b,0,none⟩=some (.slice a n c)):(method 505 252 (.pointer (some ⟨b,0,none⟩)) "Less").run prog w=.ok (372,.slice a n c) w:=by
 have h0:(method 505 252 (.pointer (some ⟨b,0,none⟩)) "Less").run prog w=(do let r<-loadVar 248 ⟨b,0,none⟩;pure (372,r):Sem (FuncId×Value)).run prog w:=D1;have h1:(do let r<-loadVar 248 ⟨b,0,none⟩;pure (372,r):Sem (FuncId×Value)).run prog w=((loadVar 248 ⟨b,0,none⟩).run prog w).andThen (λs w'=>.ok (372,s) w'):=by simp[go_sem]
 rw[h0,h1,DU h];rfl
def DV{w:World}{b:Nat}{a:Option Addr}{n c:Nat}(h:w.cell? ⟨b,0,none⟩=some (.slice a n c)):(method 505 252 (.pointer (some ⟨b,0,none⟩)) "Swap").run prog w=.ok (373,.slice a n c) w:=by
 have h0:(method 505 252 (.pointer (some ⟨b,0,none⟩)) "Swap").run prog w=(do let r<-loadVar 248 ⟨b,0,none⟩;pure (373,r):Sem (FuncId×Value)).run prog w:=D1;have h1:(do let r<-loadVar 248 ⟨b,0,none⟩;pure (373,r):Sem (FuncId×Value)).run prog w=((loadVar 248 ⟨b,0,none⟩).run prog w).andThen (λs w'=>.ok (373,s) w'):=by simp[go_sem]
 rw[h0,h1,DU h];rfl
structure QB (w:World) (qb g n:Nat) (q:List Hp.Sh):Prop where
 cell:w.cell? ⟨qb,0,none⟩=some (.slice (some ⟨g,0,none⟩) n n)
 lt:qb<w.heap.size
 ne:qb≠g
 at_:QAt w g q
 len:q.length=n
def QB.on{w w':World}{qb g n:Nat}{q:List Hp.Sh}(h:QB w qb g n q)(hx:Ext w w'):QB w' qb g n q:=
 ⟨(hx.cell (p:=⟨qb,0,none⟩) h.lt).trans h.cell,W1 h.lt hx.size,h.ne,h.at_.on hx,h.len⟩
def QB.aAp{w w':World}{qb g n:Nat}{q q':List Hp.Sh}(h:QB w qb g n q)(hg:GB (some g) w w')(hq:QAt w' g q')(hl:q'.length=q.length):QB w' qb g n q':=
 ⟨(hg.cell (p:=⟨qb,0,none⟩) h.lt (λe=>h.ne (by injection e with e;exact e.symm))).trans h.cell,W1 h.lt hg.size,h.ne,hq,hl.trans h.len⟩
def DnE(qb g n k0:Nat)(q:List Hp.Sh)(w:World)(w':World):Prop:=∃q',QB w' qb g n q'/\Hp.Heap Hp.Cn q' k0/\q'.Perm q/\GB (some g) w w'
def rI(qb g n i0:Nat)(q:List Hp.Sh)(w:World)(hq:QB w qb g n q)(hi:i0<=n)(hn:n<=1000000)(hh:Hp.Near Hp.Cn q i0 i0):
 Calls prog 262 #[.iface 252 (.pointer (some ⟨qb,0,none⟩)),.int .i64 (i0:Int),.int .i64 (n:Int)] w λe w'=>(∃b,e=.returned (.bool b))/\DnE qb g n i0 q w w':=by
 have HQ:=B0 hq;have HH:=B0 hh;clear hq hh;go_enter func262,ntmps262;go_wp2_with fail;go_loopw [7] (λt wr=>∃(i:Nat)(q':List Hp.Sh),i0<=i/\i<=n/\t=.int .i64 (i:Int)/\Hid (QB wr qb g n q')/\Hid (Hp.Near Hp.Cn q' i0 i)/\Hid (q'.Perm q)/\Hid (GB (some g) w wr)) (λt _=>n-(intOf t).toNat)
 case atStart=>exact⟨i0,q,J0 _,hi,rfl,HQ,HH,B0 (List.Perm.refl _),B0 (GB.refl _)⟩
 case round=>
 clear HQ HH hi;obtain⟨i,q',Mj,Bd,rfl,HQ,HH,HP,HG⟩:=hrel;by_cases hj:2*i+1<n
 .have Bx:¬(n:Int)<=2*(i:Int)+1:=C0;have Cx:¬2*(i:Int)+1<0:=C0;obtain⟨x,IY⟩:∃x,q'[i]? =some x:=⟨_,P0 TF⟩;obtain⟨y1,Yy⟩:∃y,q'[2*i+1]? =some y:=⟨_,P0 TF⟩;have Ix:=B0 IY;have Ny:=B0 Yy;clear IY Yy;by_cases hj2:2*i+2<n
  .have aFx:2*(i:Int)+1+1<(n:Int):=by omega
   obtain⟨y2,hy2⟩:∃y,q'[2*i+2]? =some y:=⟨_,P0 TF⟩
   have HY2:=B0 hy2
   have HL1:=B0 (λw' (h:QB w' qb g n q')=>by have:=MK g n (2*i+2) (2*i+1) q' y2 y1 w' h.at_ h.len HY2.out Ny.out C0;rw[show((2*i+2:Nat):Int)=2*(i:Int)+1+1 by omega,show((2*i+1:Nat):Int)=2*(i:Int)+1 by omega]at this;exact this)
   have Be:=ML HQ.out.cell
   obtain⟨b1,o8⟩:∃b1,b1=Hp.Cn y2 y1:=⟨_,rfl⟩
   rw[<-o8]at HL1
   have Ay:=B0 o8
   clear o8 hy2
   go_wp2_with fail
   refine(HL1.out _ HQ.out).mono ?_
   rintro e w2 ⟨rfl,j0⟩
   have Ee:=B0 (HQ.out.on j0)
   have IA:=B0 j0
   clear j0 Be
   cases b1 with
   |false=>
    have Xc:Hid (∀c,(c=2*i+1\/c=2*i+2)->∀z,q'[c]? =some z->Hp.Cn z y1=false):=B0 (λc hc z hz=>by rcases hc with rfl|rfl;(·have e:=Ny.out;exact DW);·have e:=HY2.out;rw[hz]at e;injection e with e;subst e;exact Ay.out.symm
    )
    have Fm:=B0 (λw' (h:QB w' qb g n q')=>by have:=MK g n (2*i+1) i q' y1 x w' h.at_ h.len Ny.out Ix.out C0;rw[show((2*i+1:Nat):Int)=2*(i:Int)+1 by omega]at this;exact this)
    have Dc:=B0 (λw' (h:QB w' qb g n q')=>by have:=DT g n i (2*i+1) q' x y1 w' h.at_ h.len Ix.out Ny.out C0 C0;rw[show((2*i+1:Nat):Int)=2*(i:Int)+1 by omega]at this;exact this)
    have Cl:=ML Ee.out.cell
    obtain⟨b2,n7⟩:∃b2,b2=Hp.Cn y1 x:=⟨_,rfl⟩
    rw[<-n7]at Fm
    have Ch:=B0 n7
    clear n7
    go_wp2_with fail
    refine(Fm.out _ Ee.out).mono ?_
    rintro e w3 ⟨rfl,j4⟩
    have Oq:=B0 (Ee.out.on j4)
    have Ct:=B0 (IA.out.trans j4)
    have Ss:=DV Oq.out.cell
    clear j4 Cl
    cases b2 with
    |false=>exact DX
    |true=>exact rJ
   |true=>
    have Xc:Hid (∀c,(c=2*i+1\/c=2*i+2)->∀z,q'[c]? =some z->Hp.Cn z y2=false):=B0 (λc hc z hz=>by rcases hc with rfl|rfl;(·have e:=Ny.out;rw[hz]at e;injection e with e;subst e;exact Hp.lessS_as _ _ Ay.out.symm);·have e:=HY2.out;exact DW
    )
    have Fm:=B0 (λw' (h:QB w' qb g n q')=>by have:=MK g n (2*i+2) i q' y2 x w' h.at_ h.len HY2.out Ix.out C0;rw[show((2*i+2:Nat):Int)=2*(i:Int)+1+1 by omega]at this;exact this)
    have Dc:=B0 (λw' (h:QB w' qb g n q')=>by have:=DT g n i (2*i+2) q' x y2 w' h.at_ h.len Ix.out HY2.out C0 C0;rw[show((2*i+2:Nat):Int)=2*(i:Int)+1+1 by omega]at this;exact this)
    have Cl:=ML Ee.out.cell
    obtain⟨b2,n7⟩:∃b2,b2=Hp.Cn y2 x:=⟨_,rfl⟩
    rw[<-n7]at Fm
    have Ch:=B0 n7
    clear n7
    go_wp2_with fail
    refine(Fm.out _ Ee.out).mono ?_
    rintro e w3 ⟨rfl,j4⟩
    have Oq:=B0 (Ee.out.on j4)
    have Ct:=B0 (IA.out.trans j4)
    have Ss:=DV Oq.out.cell
    clear j4 Cl
    cases b2 with
    |false=>exact DX
    |true=>go_wp2_with fail;refine(Dc.out _ Oq.out).mono ?_;rintro e w4 ⟨rfl,Su,Et⟩;have HQ4:=B0 (Oq.out.aAp Et Su (Hp.aEc q' i (2*i+2)));have HG4:=B0 ((HG.out.trans (GB.ext Ct.out)).trans Et);have HH4:=B0 (HH.out.step Hp.lessS_tr Hp.lessS_as Mj C0 Ix.out HY2.out Ch.out.symm Xc.out);have HP4:=B0 ((Hp.swap_perm Ix.out HY2.out).trans HP.out);clear Su Et;go_wp2;go_roundw;(case rel=>exact⟨2*i+2,_,by omega,by omega,by go_num,HQ4,HH4,HP4,HG4⟩);case measure=>exact Qr
  .have aFx:¬2*(i:Int)+1+1<(n:Int):=by omega
   have Ee:=HQ
   have IA:=B0 (Ext.refl wr)
   have Xc:Hid (∀c,(c=2*i+1\/c=2*i+2)->∀z,q'[c]? =some z->Hp.Cn z y1=false):=B0 (λc hc z hz=>by have x8:=(N1.1 hz).1;rw[HQ.out.len]at x8;obtain rfl:c=2*i+1:=C0;have e:=Ny.out;exact DW
   )
   have Fm:=B0 (λw' (h:QB w' qb g n q')=>by have:=MK g n (2*i+1) i q' y1 x w' h.at_ h.len Ny.out Ix.out C0;rw[show((2*i+1:Nat):Int)=2*(i:Int)+1 by omega]at this;exact this)
   have Dc:=B0 (λw' (h:QB w' qb g n q')=>by have:=DT g n i (2*i+1) q' x y1 w' h.at_ h.len Ix.out Ny.out C0 C0;rw[show((2*i+1:Nat):Int)=2*(i:Int)+1 by omega]at this;exact this)
   have Cl:=ML Ee.out.cell
   obtain⟨b2,n7⟩:∃b2,b2=Hp.Cn y1 x:=⟨_,rfl⟩
   rw[<-n7]at Fm
   have Ch:=B0 n7
   clear n7
   go_wp2_with fail
   refine(Fm.out _ Ee.out).mono ?_
   rintro e w3 ⟨rfl,j4⟩
   have Oq:=B0 (Ee.out.on j4)
   have Ct:=B0 (IA.out.trans j4)
   have Ss:=DV Oq.out.cell
   clear j4 Cl
   cases b2 with
   |false=>exact DX
   |true=>exact rJ
 .have Bx:(n:Int)<=2*(i:Int)+1:=C0;have HD:Hid (Hp.Heap Hp.Cn q' i0):=B0 (HH.out.done (λc hc a b ha=>by have:=(N1.1 ha).1;rw[HQ.out.len]at this;omega));go_wp2;go_ret;exact⟨⟨_,rfl⟩,q',HQ.out,HD.out,HP.out,HG.out⟩
end
section
open Go.RowKit Go.Maps Go
namespace Cs
def rnds(cs:List Int)(i:Nat)(T:Tab):Nat->Tab
 |0=>T
 |r+1=>round cs i (rnds cs i T r)
def aAY(cs:List Int)(i:Nat)(T:Tab)(s:Nat):Tab:=(List.range s).foldl (node cs i) T
def aHG(cs:List Int)(i:Nat)(T:Tab)(s:Nat):aAY cs i T (s+1)=node cs i (aAY cs i T s) s:=by unfold aAY;rw[EK,WI];rfl
def aHF(cs:List Int)(i:Nat)(T:Tab):aAY cs i T 5=round cs i T:=rfl
def Th(cs:List Int)(i s:Nat)(T:Tab)(j:Nat):Tab:=((Au cs i s).take j).foldl (Kq (i,s)) T
def aHU{cs:List Int}{i s:Nat}{T:Tab}{j:Nat}{m:Mv}(h:(Au cs i s)[j]? =some m):Th cs i s T (j+1)=Kq (i,s) (Th cs i s T j) m:=by unfold Th;rw[M5,h,WI];rfl
def aHT{cs:List Int}{i s:Nat}{T:Tab}{j:Nat}(h:j=(Au cs i s).length):Th cs i s T j=node cs i T s:=by unfold Th node;rw[h,J6]
def aBm(v:Option Int)(nd:Nd):(one v nd).length<=1:=by unfold one;cases v<;>simp
def moves_len(cs:List Int)(i s:Nat):(Au cs i s).length<=4:=by unfold Au;have h1:=aBm (valOf (cs.getD i 0) 2) (i+1,3);have h2:=aBm (valOf (cs.getD i 0) 3) (i+1,2);have h3:=aBm (own (cs.getD i 0) s) (i+1,s);have h4:=aBm (IM cs i) (i+2,4);(repeat' split)<;>(try simp only[S0,B1,I3])<;>omega
def Ws(n s:Nat):Tab:=λx=>if x.1=n/\2<=x.2/\x.2<s then some 0 else none
def tabF_succ(n s:Nat)(h:2<=s):(λy=>if y=(n,s)then some 0 else Ws n s y)=Ws n (s+1):=by
 funext y;obtain⟨a,b⟩:=y;unfold Ws;by_cases h1:(a,b)=(n,s);·injection h1 with h1 h2;subst h1 h2;exact X0
 .rw[D0 h1];by_cases h2:a=n/\2<=b/\b<s;(·rw[G0 h2,G0 ⟨h2.1,h2.2.1,by dsimp only;omega⟩]);·rw[D0 h2,D0];rintro⟨g1,g2,g3⟩;dsimp only at g1 g2 g3;refine h2 ⟨g1,g2,?_⟩;have:b≠s:=λe=>h1 (by rw[g1,e]);omega
def tabF_two(n:Nat):Ws n 2=λ_=>none:=by funext y;unfold Ws;rw[D0 C0]
def tabF_five(n:Nat):Ws n 5=tab0 n:=by
 funext y;unfold Ws tab0;by_cases h:y.1=n/\2<=y.2/\y.2<=4;·rw[G0 h,G0 ⟨h.1,h.2.1,by omega⟩]
 .rw[D0 h,D0 (λh2=>h ⟨h2.1,h2.2.1,by omega⟩)]
def aHV{fr:Nd}{T:Tab}{m:Mv}(h:T m.2=none):Kq fr T m=T:=by unfold Kq;rw[h]
def aE5{fr:Nd}{T:Tab}{m:Mv}{r:Nat}(h:T m.2=some r)(hb:better (T fr) (r+1)=true):Kq fr T m=λx=>if x=fr then some (r+1)else T x:=by unfold Kq;rw[h];exact G0 hb
def aHW{fr:Nd}{T:Tab}{m:Mv}{r:Nat}(h:T m.2=some r)(hb:better (T fr) (r+1)=false):Kq fr T m=T:=by unfold Kq;rw[h];exact D0 (by rw[hb];exact Bool.noConfusion)
end Cs
def Zla(v:Value)(cs:List Int)(w:World)(hv:Sl w v (cs.map encI))(hl:cs.length<=4096)(x7:∀c∈cs,Cs.Ab c):
 Calls prog 184 #[v] w λe w'=>e=.returned (.map (some w.heap.size))/\TabM w w' w.heap.size (Cs.table cs) 200000:=by
 obtain⟨a,c,rfl⟩:=hv.form;have Uw:=B0 (λ(i s:Nat)(w2:World)(hx:Ext w w2)(hi:i<cs.length)(hs:s<=4)=>gR _ cs i s w2 (hv.ext hx) hl x7 hi hs);have Ag:=B0 (λ(i s:Nat)(hi:i<cs.length)(hs:s<=4)(m:Cs.Mv)(hm:m∈Cs.Au cs i s)=>Cs.move_ok x7 hi hs hm);rw[M0]at Uw⊢;obtain⟨n,hn⟩:∃n,n=cs.length:=⟨_,rfl⟩;rw[<-hn]at hl Uw Ag⊢;have HN:=B0 hn;have HT0:Hid (TabM w (w.alloc (.map #[] 0)) w.heap.size (Cs.Ws n 2) 0):=B0 (by rw[Cs.tabF_two];exact TabM.made w);obtain⟨mb,Mm⟩:∃mb,mb=w.heap.size:=⟨_,rfl⟩;have HB:=B0 Mm;have HEX:Hid (∀ {W:World}{T:Cs.Tab}{K:Nat},TabM w W w.heap.size T K->Ext w W):=B0 (λh=>(Ext.refl w).l8 h.2.2 (λq hq=>by injection hq with hq;omega));clear hv x7 hn Mm;have Bm:= @MN prog;go_enter func184,ntmps184;go_wp2_with fail;go_loopw [4] (λt wr=>∃s:Nat,2<=s/\s<=5/\t=.int .i64 (s:Int)/\Hid (TabM w wr w.heap.size (Cs.Ws n s) s)) (λt _=>5-(intOf t).toNat)
 case atStart=>exact⟨2,by omega,by omega,rfl,B0 (HT0.out.up C0)⟩
 case round=>
 clear HT0 Bm;obtain⟨s,Cz,hs5,rfl,HT⟩:=hrel;by_cases hlt:s<5
 .have aAe:(s:Int)<5:=C0;obtain⟨w5,Yq,Yd,-⟩:=HT.out.put (n,s) P3 P3 0 C0 C0;dsimp only at Yq Yd;rw[Cs.tabF_succ n s Cz]at Yd;rw[show((0:Nat):Int)=0 from rfl]at Yq;have HT5:=B0 Yd;clear Yd HT;go_wp2_with fail;go_roundw;(case rel=>exact⟨s+1,by omega,by omega,by go_num,HT5⟩);case measure=>exact Qr
 obtain rfl:s=5:=by omega
 have Bq:Hid (TabM w wr w.heap.size (Cs.tabs cs 0) 5):=B0 (by have:=HT.out;rw[Cs.tabF_five,HN.out]at this;exact this);clear HT hlt Cz hs5;go_wp2_with fail;go_loopw [5] (λt wr=>∃(j:Nat)(q:Int),j<=n/\q=(j:Int)-1/\t=.int .i64 q/\Hid (TabM w wr w.heap.size (Cs.tabs cs (n-j)) (5+40*(n-j)))) (λt _=>(intOf t+1).toNat)
 case atStart=>exact⟨n,(n:Int)-1,J0 _,rfl,rfl,B0 (by rw[Y3];exact Bq.out)⟩
 case round=>
 clear Bq;rename World=>wa
 obtain⟨j,q,hj,hq,rfl,HT⟩:=hrel;cases j with
 |zero=>obtain rfl:q= -1:=C0;have HF:Hid (TabM w wa w.heap.size (Cs.table cs) 200000):=B0 (by have:=HT.out;rw[T8]at this;unfold Cs.table;rw[<-HN.out];exact this.up C0);clear HT hq hj;go_wp2_with fail;go_ret;exact⟨rfl,HF.out⟩
 |succ i=>
  obtain rfl:q=(i:Int):=by omega
  obtain⟨k,hk⟩:∃k,k=n-(i+1):=⟨_,rfl⟩
  have HI:Hid (i=cs.length-1-k/\n-i=k+1/\k<n):=B0 (by have:=HN.out;omega)
  rw[<-hk]at HT
  obtain⟨T0,hT0⟩:∃T0,T0=Cs.tabs cs k:=⟨_,rfl⟩
  have HT0:=B0 hT0
  rw[<-hT0]at HT
  obtain⟨K0,hK0⟩:∃K0,K0=5+40*k:=⟨_,rfl⟩
  have HK0:=B0 hK0
  rw[<-hK0]at HT
  have aIA:K0<=170000:=by omega
  have Bd:i<n:=by omega
  clear hk hT0 hK0 hq hj
  go_wp2_with fail
  go_loopw [31] (λt wr=>∃r:Nat,r<=2/\t=.int .i64 (r:Int)/\Hid (TabM w wr w.heap.size (Cs.rnds cs i T0 r) (K0+20*r))) (λt _=>2-(intOf t).toNat)
  case atStart=>exact⟨0,R0 _,rfl,HT⟩
  case round=>
  clear HT
  rename World=>wb
  obtain⟨r,hr,rfl,HT⟩:=hrel
  by_cases hlt:r<2
  .have aAe:(r:Int)<2:=by omega
   obtain⟨T1,Oa⟩:∃T1,T1=Cs.rnds cs i T0 r:=⟨_,rfl⟩
   have Bq:=B0 Oa
   rw[<-Oa]at HT
   obtain⟨K1,hK1⟩:∃K1,K1=K0+20*r:=⟨_,rfl⟩
   have HK1:=B0 hK1
   rw[<-hK1]at HT
   have aIB:K1<=180000:=by omega
   clear Oa hK1
   go_wp2_with fail
   go_loopw [33] (λt wr=>∃s:Nat,s<=5/\t=.int .i64 (s:Int)/\Hid (TabM w wr w.heap.size (Cs.aAY cs i T1 s) (K1+4*s))) (λt _=>5-(intOf t).toNat)
   case atStart=>exact⟨0,R0 _,rfl,HT⟩
   case round=>
   clear HT
   rename World=>wc
   obtain⟨s,hs,rfl,HT⟩:=hrel
   by_cases aAc:s<5
   .have aIh:(s:Int)<5:=by omega
    obtain⟨T2,Ry⟩:∃T2,T2=Cs.aAY cs i T1 s:=⟨_,rfl⟩
    have Ad:=B0 Ry
    rw[<-Ry]at HT
    obtain⟨K2,hK2⟩:∃K2,K2=K1+4*s:=⟨_,rfl⟩
    have HK2:=B0 hK2
    rw[<-hK2]at HT
    have aIC:K2<=190000:=by omega
    obtain⟨ms,Jc⟩:∃ms,ms=Cs.Au cs i s:=⟨_,rfl⟩
    have Nt:=B0 Jc
    have Vz:=Cs.moves_len cs i s
    have aAQ:=Uw.out i s (wc.alloc (.cells #[.int .i64 (i:Int),.int .i64 (s:Int)] 218)) ((HEX.out HT.out).alloc _) Bd C0
    rw[<-Jc]at Vz aAQ
    have aAq:=B0 aAQ
    have Mz:Hid (∀m∈ms,m.2.1<=1000000/\m.2.2<=1000000):=B0 (λm hm=>by have h:=Ag.out i s Bd C0 m (by rw[<-Nt.out];exact hm);have h1:=h.end_;have h2:=h.st;have:=HN.out;omega)
    have aIj:=(TabM.ext HT.out (Ext.refl _)).2.2.size
    clear Ry hK2 Jc aAQ
    go_wp2_with fail
    refine aAq.out.mono ?_
    rintro e w2 ⟨v2,rfl,Hs,j0⟩
    obtain⟨M,hM⟩:∃M,M=ms.length:=⟨_,rfl⟩
    have Is:=B0 hM
    obtain⟨a2,c2,Ez⟩:=(Hs.sl RX).form
    rw[<-hM]at Ez Vz
    subst Ez
    have aEI:wc.heap.size+1<=w2.heap.size:=by have:=j0.size;exact I6
    have Eb:Hid (∀(j:Nat)(m:Cs.Mv),ms[j]? =some m->∃b,a2=some ⟨b,0,none⟩/\wc.heap.size+1<=b/\b<w2.heap.size/\w2.cell? ⟨b,j*3,none⟩=some (.int .i64 m.1)/\w2.cell? ⟨b,j*3+1,none⟩=some (.int .i64 (m.2.1:Int))/\w2.cell? ⟨b,j*3+2,none⟩=some (.int .i64 (m.2.2:Int))):=B0 (λj m hj=>by rcases Hs.form with⟨h0,_⟩|⟨g,cap,hv3,hBg,hg⟩;(·rw[h0]at hj;cases hj);·injection hv3 with h1 h2 h3;obtain⟨b,off,ha,hb,hc⟩:=(Hs.sl RX).at_ hj;rw[h1]at ha;injection ha with ha;injection ha with Bu IB;subst Bu IB;have q0:=hc 0 C0;have q1:=hc 1 C0;have q2:=hc 2 C0;rw[Nat.zero_add]at q0 q1 q2;exact⟨g,h1,by simpa using hBg,hg,q0,q1,q2⟩)
    have HFB:Hid (w2.heap[wc.heap.size]? =some (.cells #[.int .i64 (i:Int),.int .i64 (s:Int)] 218 (0,0))):=B0 (Ext.Rm (X2 wc _) j0)
    have Lv:Hid (TabM w w2 w.heap.size (Cs.Th cs i s T2 0) K2):=B0 (TabM.ext (TabM.ext HT.out ((Ext.refl wc).alloc _)) j0)
    have aIo:w.heap.size≠wc.heap.size:=by obtain⟨⟨c0,_,Km⟩,_⟩:=HT.out;have:=Km.lt;omega
    have aDv:w.heap.size<wc.heap.size:=by omega
    clear Hs j0 aAq hM HT
    go_wp2_with fail
    go_loopw [43] (λt wr=>∃j:Nat,j<=M/\t=.int .i64 (j:Int)/\Hid (TabM w wr w.heap.size (Cs.Th cs i s T2 j) (K2+j))/\Hid (GB (some w.heap.size) w2 wr)) (λt _=>M-(intOf t).toNat)
    case atStart=>exact⟨0,R0 _,rfl,Lv,B0 (GB.refl _)⟩
    case round=>
    clear Lv
    rename World=>wd
    obtain⟨j,hj,rfl,HT,HG⟩:=hrel
    by_cases aBG:j<M
    .have aGN:(j:Int)<(M:Int):=by omega
     obtain⟨m,Wb⟩:∃m,ms[j]? =some m:=⟨_,P0 (by rw[<-Is.out];exact aBG)⟩
     obtain⟨b,ha,o8,n7,d0,d1,d2⟩:=Eb.out j m Wb
     subst ha
     have Wc:=Mz.out m (L1 Wb)
     have Iv:Hid (Cs.Th cs i s T2 (j+1)=Cs.Kq (i,s) (Cs.Th cs i s T2 j) m):=B0 (Cs.aHU (by rw[<-Nt.out];exact Wb))
     have Pf:(some w.heap.size:Option Nat)≠some b:=λe=>by injection e with e;omega
     have e0:=(HG.out.cell (p:=⟨b,j*3,none⟩) n7 Pf).trans d0
     have e1:=(HG.out.cell (p:=⟨b,j*3+1,none⟩) n7 Pf).trans d1
     have e2:=(HG.out.cell (p:=⟨b,j*3+2,none⟩) n7 Pf).trans d2
     have hbd:b<wd.heap.size:=W1 n7 HG.out.size
     have HFD:=B0 (HG.out.heap HFB.out (λe=>by injection e with e;omega))
     obtain⟨f0,f1,f2⟩:=ME HFD.out
     obtain⟨T3,hT3⟩:∃T3,T3=Cs.Th cs i s T2 j:=⟨_,rfl⟩
     rw[<-hT3]at HT Iv
     obtain⟨K3,hK3⟩:∃K3,K3=K2+j:=⟨_,rfl⟩
     rw[<-hK3]at HT
     have aID:K3<=190010:=by omega
     have Kr:=B0 hK3
     obtain⟨mv,mi,mt⟩:=m
     dsimp only at e0 e1 e2 Wc
     have Jh:Hid (TabM w (wd.alloc (.cells #[.int .i64 mv,.int .i64 (mi:Int),.int .i64 (mt:Int)] 220)) w.heap.size T3 K3):=B0 (TabM.ext HT.out ((Ext.refl wd).alloc _))
     have HGA:Hid (GB (some w.heap.size) w2 (wd.alloc (.cells #[.int .i64 mv,.int .i64 (mi:Int),.int .i64 (mt:Int)] 220))):=B0 (HG.out.alloc _)
     have l1:=Jh.out.look (mi,mt) Wc.1 Wc.2
     have l2:=Jh.out.look (i,s) P3 P3
     dsimp only at l1 l2
     have Hy:=B0 HT.out.2.1
     clear Wb hT3 hK3 d0 d1 d2 HT HG Wc
     cases IU:T3 (mi,mt)with
     |none=>rw[IU]at l1;rw[Cs.aHV IU]at Iv;dsimp only[Option.getD_none,Option.isSome_none]at l1;generalize(((T3 (i,s)).getD 0:Nat):Int)=y1 at*;generalize(T3 (i,s)).isSome=b1 at*;clear IU;exact rK
     |some r=>
      have Ui:=Hy.out _ _ IU
      rw[IU]at l1
      dsimp only[Option.getD_some,Option.isSome_some]at l1
      cases Av:T3 (i,s)with
      |none=>rw[Av]at l2;dsimp only[Option.getD_none,Option.isSome_none]at l2;rw[Cs.aE5 IU (by rw[Av];rfl)]at Iv;exact rL
      |some y=>have hy3:=Hy.out _ _ Av;rw[Av]at l2;dsimp only[Option.getD_some,Option.isSome_some]at l2;by_cases aDw:r+1<y;(·have aGO:(r:Int)+1<(y:Int):=C0;rw[Cs.aE5 IU (by rw[Av];exact C1 aDw)]at Iv;exact rL);·have aGO:¬(r:Int)+1<(y:Int):=C0;rw[Cs.aHW IU (by rw[Av];exact G1 aDw)]at Iv;clear IU Av;exact rK
    obtain rfl:M=j:=by omega
    have HT6:Hid (TabM w wd w.heap.size (Cs.aAY cs i T1 (s+1)) (K1+4*(s+1))):=B0 (by have:=HT.out;rw[Cs.aHT (by rw[Is.out,Nt.out])]at this;rw[Cs.aHG,<-Ad.out];exact this.up (by have:=HK2.out;omega))
    clear HT HG hj aBG
    go_wp2_with fail
    go_roundw
    case rel=>(repeat apply Exists.intro);exact⟨⟨s+1,by omega,by go_num,HT6⟩,rfl⟩
    case measure=>exact Qr
   obtain rfl:s=5:=by omega
   have HT6:Hid (TabM w wc w.heap.size (Cs.rnds cs i T0 (r+1)) (K0+20*(r+1))):=B0 (by have:=HT.out;rw[Cs.aHF,Bq.out]at this;exact this.up (by have:=HK1.out;omega))
   clear HT hs aAc
   go_wp2_with fail
   go_roundw
   case rel=>exact⟨r+1,by omega,by go_num,HT6⟩
   case measure=>exact Qr
  obtain rfl:r=2:=by omega
  have HT6:Hid (TabM w wb w.heap.size (Cs.tabs cs (n-i)) (5+40*(n-i))):=B0 (by have:=HT.out;rw[HI.out.2.1];have e:Cs.rnds cs i T0 2=Cs.tabs cs (k+1):=(by rw[HT0.out];show Cs.round cs i (Cs.round cs i (Cs.tabs cs k))=Cs.round cs (cs.length-1-k) (Cs.round cs (cs.length-1-k) (Cs.tabs cs k));rw[<-HI.out.1]);rw[<-e];exact this.up (by have:=HK0.out;omega))
  clear HT hr hlt
  go_wp2_with fail
  go_roundw
  case rel=>exact⟨i,(i:Int)-1,by omega,rfl,rfl,HT6⟩
  case measure=>exact Qr
end
section
open Go.RowKit
def ZnR(v:Value)(w:World):Calls prog 263 #[v,.int .i64 0] w λe w'=>e=.returned (.tuple #[])/\w=w':=by
 go_enter func263,ntmps263;go_wp2_with fail;go_loopw [1] (λt wr=>t=.int .i64 0/\wr=w) (λ_ _=>0);case atStart=>exact XB
 case round=>
 obtain⟨rfl,rfl⟩:=hrel;go_wp2;go_end0;exact XB
def ZmX(qb g n:Nat)(q:List Hp.Sh)(w:World)(hq:QB w qb g n q)(hn:n<=1000000)(hh:Hp.Near Hp.Cn q 0 0):
 Calls prog 228 #[.iface 252 (.pointer (some ⟨qb,0,none⟩)),.int .i64 0] w λe w'=>e=.returned (.tuple #[])/\DnE qb g n 0 q w w':=by
 have HQ:=B0 hq;have HL:=B0 (λw'=>rF (some ⟨g,0,none⟩) n n w');have HD:=B0 (λw' (h:QB w' qb g n q)=>rI qb g n 0 q w' h (R0 _) hn hh);have hm:=rH hq.cell;clear hq hh;go_enter func228,ntmps228;go_wp2_with fail;refine(HL.out _).mono ?_;rintro e w1 ⟨rfl,b7⟩;have Ic:=B0 (HQ.out.on b7);go_wp2_with fail;refine(HD.out _ Ic.out).mono ?_;rintro e w2 ⟨⟨b,rfl⟩,q',hq',hh',Js,Yl⟩;have Ee:=B0 hq';have My:=B0 hh';have HP2:=B0 Js;have Rb:=B0 ((GB.ext b7).trans Yl);clear hq' hh' Js Yl b7;cases b with
 |true=>exact aF
 |false=>go_wp2_with fail;refine(ZnR _ w2).mono ?_;rintro e w3 ⟨rfl,rfl⟩;exact aF
def Zlw(qb g n:Nat)(q:List Hp.Sh)(w:World)(hq:QB w qb g n q)(hn:n<=1000000):
 Calls prog 227 #[.iface 252 (.pointer (some ⟨qb,0,none⟩))] w λe w'=>e=.returned (.tuple #[])/\DnE qb g n 0 q w w':=by
 have HQ:=B0 hq;have HL:=B0 (λw'=>rF (some ⟨g,0,none⟩) n n w');have hm:=rH hq.cell;clear hq;go_enter func227,ntmps227;go_wp2_with fail;refine(HL.out _).mono ?_;rintro e w1 ⟨rfl,b7⟩;have Ic:=B0 (HQ.out.on b7);have IK:=B0 b7;have HH1:Hid (Hp.Heap Hp.Cn q (n/2)):=B0 (Hp.Heap.last Hp.Cn q TF);clear b7 hm HL;go_wp2_with fail;go_loopw [3] (λt wr=>∃(k:Nat)(q':List Hp.Sh),k<=n/\t=.int .i64 ((k:Int)-1)/\Hid (QB wr qb g n q')/\Hid (Hp.Heap Hp.Cn q' k)/\Hid (q'.Perm q)/\Hid (GB (some g) w wr)) (λt _=>(intOf t+1).toNat)
 case atStart=>exact⟨n/2,q,by omega,by go_num,Ic,HH1,B0 (List.Perm.refl _),B0 (GB.ext IK.out)⟩
 case round=>
 clear HQ Ic IK HH1;obtain⟨k,q',hk,rfl,HQ,HH,HP,HG⟩:=hrel;by_cases Ew:k=0
 .subst Ew;go_wp2;go_end0;exact⟨rfl,q',HQ.out,HH.out,HP.out,HG.out⟩
 .obtain⟨j,rfl⟩:∃j,k=j+1:=⟨k-1,by omega⟩;have Bx:((j+1:Nat):Int)-1=(j:Int):=C0;have Cx:(0:Int)<=(j:Int):=C0;rw[Bx];have HD:=B0 (λw' (h:QB w' qb g n q')=>rI qb g n j q' w' h C0 hn HH.out.near);go_wp2_with fail;refine(HD.out _ HQ.out).mono ?_;rintro e w2 ⟨⟨b,rfl⟩,q2,hq',hh',Js,Yl⟩;have Ee:=B0 hq';have My:=B0 hh';have HP2:=B0 (Js.trans HP.out);have Rb:=B0 (HG.out.trans Yl);clear hq' hh' Js Yl;go_wp2_with fail;go_roundw;(case rel=>exact⟨j,q2,by omega,by go_num,Ee,My,HP2,Rb⟩);case measure=>exact Qr
def arrV(l:List ByteArray):Value:=.agg (l.map Value.string).toArray
def aQ(t:Nat)(ht:t<3)(w:World):Calls prog 181 #[.int .u8 ((65+t:Nat):Int)] w λe w'=>e=.returned (arrV (Ea.Ms t))/\Ext w w':=by
 have h:t=0\/t=1\/t=2:=by omega
 rcases h with rfl|rfl|rfl;·go_enter func181,ntmps181;go_wp2;go_returns;exact A7
 .go_enter func181,ntmps181;go_wp2;go_returns;exact A7
 .go_enter func181,ntmps181;go_wp2;go_returns;exact A7
def aR(w:World):Calls prog 179 #[] w λe w'=>e=.returned (arrV Ea.Pu)/\Ext w w':=by go_enter func179,ntmps179;go_wp2;go_returns;exact A7
def Zen(c:Int)(h:(c==49)=false)(w:World):Calls prog 180 #[.int .u8 c] w λe w'=>e=.returned (arrV (Ea.Cu 0))/\Ext w w':=by go_enter func180,ntmps180;go_wp2;go_returns;exact A7
def LH(v:Value)(m:List Bool)(w:World)(hv:SlK w v (m.map encT))(hm:m.length<=1000000):
 Calls prog 42 #[v] w λe w'=>e=.returned (.tuple #[.int .i64 (Ea.ldg m:Int),.int .i64 (Ea.Ac m:Int)])/\w=w':=by
 obtain⟨j8,a,c,rfl,_⟩:=hv;rw[M0]at j8⊢;have HV:=B0 j8;clear j8;go_enter func42,ntmps42;go_wp2;go_loop [2] (λi=>∃k:Nat,k<=m.length/\i=.int .i64 (k:Int)/\Hid (Ea.ldg (m.drop k)+k=Ea.ldg m)) (λi=>m.length-(intOf i).toNat)
 case atStart=>exact C7
 case round=>
  obtain⟨k,hk,rfl,hl⟩:=hrel;by_cases hlt:k<m.length
  .obtain⟨bb0,aJR,Dr,aIM,aCO⟩:=HV.out.at_ (k:=k) CQ
   subst Dr
   rw[X9]at aCO
   unfold encT at aCO
   obtain⟨b,hb⟩:∃b,m[k]=b:=⟨_,rfl⟩
   rw[hb]at aCO
   have Ni:=hl.out
   rw[F5 hlt,hb]at Ni
   have Fm:=B0 Ni
   clear Ni hl hb
   cases b with
   |true=>
    have HL:Hid (((Ea.ldg m:Nat):Int)=(k:Int)):=B0 (by have:=Fm.out;simp only[Ea.ldg,M3]at this;omega);clear Fm;go_wp2;go_loop [3] (λi=>∃j:Nat,j<=m.length/\i=.int .i64 (j:Int)/\Hid (Ea.ldg (m.reverse.drop j)+j=Ea.Ac m)) (λi=>m.length-(intOf i).toNat);(case atStart=>exact C7);case round=>
     obtain⟨j,hj,rfl,hr⟩:=hrel;by_cases hlj:j<m.length
     .obtain⟨bb,off,ha,Ce,Bc⟩:=HV.out.at_ (k:=m.length-1-j) J5
      simp only[P2,Addr.mk.injEq,W5]at ha
      obtain⟨rfl,rfl⟩:=ha
      rw[X9]at Bc
      unfold encT at Bc
      obtain⟨b,hb⟩:∃b,m[m.length-1-j]' C0=b:=⟨_,rfl⟩
      rw[hb]at Bc
      have hi:(m.length:Int)-1-(j:Int)=((m.length-1-j:Nat):Int):=by omega
      have Ev:m.length-1-j<m.length:=by omega
      have HRV:Hid (m.reverse.drop j=b::m.reverse.drop (j+1)):=B0 aS
      have Aa:=hr.out
      rw[HRV.out]at Aa
      have Aj:=B0 Aa
      clear Aa hr hb HRV
      obtain⟨ix,Ue⟩:∃ix,m.length-1-j=ix:=⟨_,rfl⟩
      rw[Ue]at Bc hi Ev
      clear Ue
      cases b with
      |true=>exact aT
      |false=>exact aU
     .exact aV
   |false=>have HE:Hid (Ea.ldg (m.drop (k+1))+(k+1)=Ea.ldg m):=B0 (by have:=Fm.out;simp only[Ea.ldg,LI,E4]at this;omega);clear Fm;go_wp2;go_round;(case rel=>exact⟨k+1,by omega,by go_num,HE⟩);case measure=>exact QH
  .obtain rfl:k=m.length:=C0;have HL:Hid (((Ea.ldg m:Nat):Int)=(m.length:Int)):=B0 (by have:=hl.out;rw[O5 (J0 _)]at this;simp only[Ea.ldg]at this;omega);clear hk hlt hl;go_wp2;go_loop [3] (λi=>∃j:Nat,j<=m.length/\i=.int .i64 (j:Int)/\Hid (Ea.ldg (m.reverse.drop j)+j=Ea.Ac m)) (λi=>m.length-(intOf i).toNat);(case atStart=>exact C7);case round=>
    obtain⟨j,hj,rfl,hr⟩:=hrel;by_cases hlj:j<m.length
    .obtain⟨bb,off,ha,Ce,Bc⟩:=HV.out.at_ (k:=m.length-1-j) J5
     subst ha
     rw[X9]at Bc
     unfold encT at Bc
     obtain⟨b,hb⟩:∃b,m[m.length-1-j]' C0=b:=⟨_,rfl⟩
     rw[hb]at Bc
     have hi:(m.length:Int)-1-(j:Int)=((m.length-1-j:Nat):Int):=by omega
     have Ev:m.length-1-j<m.length:=by omega
     have HRV:Hid (m.reverse.drop j=b::m.reverse.drop (j+1)):=B0 aS
     have Aa:=hr.out
     rw[HRV.out]at Aa
     have Aj:=B0 Aa
     clear Aa hr hb HRV
     obtain⟨ix,Ue⟩:∃ix,m.length-1-j=ix:=⟨_,rfl⟩
     rw[Ue]at Bc hi Ev
     clear Ue
     cases b with
     |true=>exact aT
     |false=>exact aU
    .exact aV
attribute [local go_sem] Oper.semAt_some
def Zk4(a:Option Addr)(n c:Nat)(w:World):
 Calls prog 85 #[.slice a n c] w λe w'=>e=.returned (.func (.func 152) #[] #[.pointer (some ⟨w.heap.size,0,none⟩)])/\w'=w.alloc (.cells #[.slice a n c] 26):=by
 have Wa:∀(fn:Fn)(first cap:Array Value)(w:World),(Instr.makeFunc fn first cap).run prog w=.ok (.func fn first cap) w:=λ_ _ _ _=>rfl
 go_enter func85,ntmps85;go_wp2;go_ret;exact⟨rfl,rfl⟩
def ZT(n₀ Bn:Nat)(v:Value)(W W':World):Prop:=Below n₀ W W'/\(Boxed W Bn 26 v->Boxed W' Bn 26 v)
def ZT.t{n₀ Bn:Nat}{v:Value}{A B C:World}(h:ZT n₀ Bn v A B)(k:ZT n₀ Bn v B C):ZT n₀ Bn v A C:=⟨h.1.trans k.1,λx=>k.2 (h.2 x)⟩
def ZT.b{n₀ Bn:Nat}{v:Value}{w:World}(hn:n₀<=w.heap.size)(W:World)(l:Nat)(o o':Obj)(hl:w.heap.size<=l)(h:W.heap[l]? =some o)(h1:o.isCells=false)(h2:o.isWalk=false):ZT n₀ Bn v W (W.putObj l o'):=
 ⟨belowK_b hn W l o o' hl h h1 h2,λx=>x.kept (grownBy_putObj' W l o') (λe=>by injection e with e;subst e;rw[show W.heap[Bn]? =_ from x]at h;injection h with h;subst h;cases h1)⟩
def ZT.ext{n₀ Bn:Nat}{v:Value}{W W':World}(hn:n₀<=W.heap.size)(h:Ext W W'):ZT n₀ Bn v W W':=⟨Below.mono h hn,λx=>x.kept h.Hl L0⟩
def Zk3(n:Nat)(hn:1<=n)(l Bn n₀:Nat)(v:Value)(m:List Bool)(hm:m.length<=1000000)(w0:World)(hv:SlK w0 v (m.map encT))(Gr:w0.heap.size<=n₀)(J Jx:List Nat->World->Prop)
 (hY:∀(pre:List Nat)(x:Nat)(W:World),J pre W->pre.length<m.length->YieldAt Fence.wide (n-1) prog l #[.int .i64 (x:Int)] W λe W'=>(e=.returned (.bool true)/\J (pre++[x]) W'/\ZT n₀ Bn v W W')\/(e=.returned (.bool false)/\Jx (pre++[x]) W'))
 (W:World)(hX:Ext w0 W)(Mn:n₀<=W.heap.size)(hBn:Boxed W Bn 26 v)(hJn:AbidesFrom W.heap.size J)(h0:J [] W):
 CallsIn Fence.wide n prog 152 #[.func (.yield l) #[] #[],.pointer (some ⟨Bn,0,none⟩)] W λe W'=>(∃v,e=.returned v)/\
  ((∃ys,ys=Rn.widthsN m/\J ys W')\/(∃pre,pre<+:Rn.widthsN m/\Jx pre W')):=by
 have hvW:=hv.ext hX
 have Dp:=B0 (LH v m W hvW hm)
 obtain⟨j8,a,c,rfl,-⟩:=hv
 rw[M0]at j8 Dp hBn
 obtain⟨nn,Of⟩:∃nn,nn=m.length:=⟨_,rfl⟩
 obtain⟨hla,Uh⟩:=Rn.aEQ m
 have hrc:=Rn.aHX m
 simp only[M0]at hY
 simp only[<-Of]at hY
 rw[<-Of]at j8 Dp hm hla Uh hrc hBn
 obtain⟨A,hA⟩:∃A,A=Ea.ldg m:=⟨_,rfl⟩
 obtain⟨B,hB⟩:∃B,B=Ea.Ac m:=⟨_,rfl⟩
 rw[<-hA]at Dp hla hrc
 rw[<-hB]at Dp Uh hrc
 have k7:A=nn\/(A<nn/\A+B<nn):=by rcases Rn.row_split m with⟨_,_,h3,_⟩|⟨q,h1,_,h3⟩;(·left;rw[hA,h3,Of]);·right;have h4:=V0 List.length h3;rw[S0,S0,M2,M2,h1,B1]at h4;omega
 obtain⟨E,hE⟩:∃E,E=nn-B:=⟨_,rfl⟩
 rw[<-hE]at hrc
 have hEI:(nn:Int)-(B:Int)=(E:Int):=by omega
 have hEn:E<=nn:=by omega
 have HV:=B0 j8
 have It:=B0 hrc
 have HY:=B0 hY
 have HJ:=B0 hJn
 have Gm:Hid ((m.take E).length=E):=B0 V6
 have HTE:Hid (∀(i:Nat)(b:Bool),(m.take E)[i]? =some b->m[i]? =some b):=B0 (λi b h=>by rw[YY]at h;split at h;(·exact h);·cases h)
 generalize Rn.widthsN m=res at*
 generalize m.take E=mE at*
 have H0:=B0 h0
 have HX:=B0 hX
 clear Of j8 hrc hA hB hE Uh hY hJn h0 hX
 have Pf:=hBn.cell
 refine callsIn_of_wp func152 rfl trivial ?_ rfl
 simp only[ntmps152,LJ,B1,I3,Nat.reduceAdd,Nat.reduceSub,Array.replicate_succ,Array.replicate_zero,List.push_toArray,List.append_toArray,G4,C3]
 rcases k7 with k7|⟨k7,hAB⟩
 .have zA:((A:Int)==(nn:Int))=true:=I1.2 C0
  gi_wp2_with fail
  refine⟨trivial,?_⟩
  refine(LK.2 Dp.out).mono ?_
  rintro e w1 ⟨rfl,rfl⟩
  gi_wp2
  refine J2 (MD rfl _ _ _) rfl ?_
  exact⟨⟨_,rfl⟩,.inl ⟨[],by rw[It.out,O5 (by rw[Gm.out];omega)];rfl,H0.out⟩⟩
 .have zA:((A:Int)==(nn:Int))=false:=O0.2 C0
  have hAE:A<E:=by omega
  gi_wp2_with fail
  refine⟨trivial,?_⟩
  refine(LK.2 Dp.out).mono ?_
  rintro e w1 ⟨rfl,rfl⟩
  gi_wp2_with fail
  gi_loopw [6,7] (λs k wr=>∃(st i:Nat)(pre:List Nat),s=.int .i64 (st:Int)/\k=.int .i64 (i:Int)/\st<i/\i<=E+1/\pre.length<=st/\Hid (res=pre++(if i<=E then Rn.rest (i-1-st) (mE.drop (i-1))else []))/\Hid (mE[st]? =mE[i-1]?\/i=E+1)/\Hid (J pre wr)/\Hid (Below n₀ W wr)/\Hid (Boxed wr Bn 26 (.slice a nn c))) (λ_ k _=>E+1-(intOf k).toNat)
  case atStart=>exact⟨A,A+1,[],rfl,by go_num,by omega,by omega,R0 _,B0 (by rw[G0 C0,It.out,TI,Y3];rfl),B0 (.inl rfl),H0,B0 (YK _ _),B0 hBn⟩
  case round=>
   obtain⟨st,i,pre,rfl,rfl,hsi,hiE,Lg,HR,HS,Uv,HB,Px⟩:=hrel;have hXw:Ext w0 wr:=O4 (B:=w0.heap.size) HX.out (HB.out.mono Gr);have hsw:n₀<=wr.heap.size:=F3 Mn HB.out.size;have hbx:=Px.out.cell;by_cases hle:i<=E
   .have aIe:(i:Int)<=(E:Int):=C0;obtain⟨cb,Ho⟩:∃cb,mE[i-1]? =some cb:=⟨_,P0 (by rw[Gm.out];omega)⟩;have p9:mE[st]? =some cb:=(by rcases HS.out with h|h;(·rw[h,Ho]);·omega);have hdi:mE.drop (i-1)=cb::mE.drop i:=(by obtain⟨h1,h2⟩:=N1.1 Ho;rw[F5 h1,h2,show i-1+1=i by omega]);have Sy:=HR.out;rw[G0 hle,hdi]at Sy;obtain⟨x,hx⟩:∃x,x=i-1-st+1:=⟨_,rfl⟩;have hxI:(i:Int)-(st:Int)=(x:Int):=C0;have hpn:pre.length<nn:=C0;have aEE:(pre++[x]).length<=i:=LL;by_cases hlt:i<E
    .have aAe:(i:Int)<(E:Int):=C0;obtain⟨db,Jm⟩:∃db,mE[i]? =some db:=⟨_,P0 (by rw[Gm.out];omega)⟩;have hdj:mE.drop i=db::mE.drop (i+1):=(by obtain⟨h1,h2⟩:=N1.1 Jm;rw[F5 h1,h2]);obtain⟨b,o,ha,hb,c0⟩:=HV.out.Xn hXw (HTE.out _ _ p9);subst ha;obtain⟨b',o',ha',Kh,c1⟩:=HV.out.Xn hXw (HTE.out _ _ Jm);injection ha' with ha';injection ha' with h1 h2;subst h1 h2;have Bd:(i:Int)<(nn:Int):=C0;have hsn:(st:Int)<(nn:Int):=C0;rw[hdj,Rn.aHZ,<-hx]at Sy;by_cases hd:db=cb
     .have Aj:Hid (res=pre++(if i+1<=E then Rn.rest (i+1-1-st) (mE.drop (i+1-1))else [])):=B0 (by rw[G0 C0,Sy,G0 hd,TI,hdj,show i-st=x by omega])
      have Dc:Hid (mE[st]? =mE[i+1-1]?\/i+1=E+1):=B0 (.inl (by rw[TI,p9,Jm,hd]))
      subst hd
      have hd9:decide ((i:Int)<(E:Int))=true:=C1 aAe
      clear Ho p9 hdi Sy Jm hdj hx hle hlt HR HS aEE
      gi_wp2_with fail
      gi_quiet_th (fail)
      have HJq:Hid (J pre (wr.drewN nq)):=B0 (HJ.out _ _ _ none Uv.out (Ext.Hl ((Ext.refl _).drewN _)) (λr e=>by cases e))
      have HBq:Hid (Below n₀ W (wr.drewN nq)):=B0 (O4 HB.out (Below.mono ((Ext.refl wr).drewN nq) hsw))
      have aEm:Hid (Boxed (wr.drewN nq) Bn 26 _):=B0 (Px.out.kept (Ext.Hl ((Ext.refl wr).drewN nq)) L0)
      clear Uv HB Px
      gi_wp2
      go_roundw
      case rel=>exact⟨st,i+1,pre,rfl,by go_num,by omega,by omega,Lg,Aj,Dc,HJq,HBq,aEm⟩
      case measure=>exact Qr
     .have zd:(db==cb)=false:=by cases db<;>cases cb<;>first|rfl|exact absurd rfl hd
      rw[D0 hd]at Sy
      have Ou:Hid ((pre++[x])++Rn.rest 0 (db::mE.drop (i+1))=res):=B0 (by rw[Sy,V1];rfl)
      have Aj:Hid (res=(pre++[x])++(if i+1<=E then Rn.rest (i+1-1-i) (mE.drop (i+1-1))else [])):=B0 (by rw[G0 C0,<-Ou.out,TI,Y3,hdj])
      have Dc:Hid (mE[i]? =mE[i+1-1]?\/i+1=E+1):=B0 (.inl rfl)
      have hd9:decide ((i:Int)<(E:Int))=true:=C1 aAe
      clear Ho p9 hdi Sy Jm hdj hx hle hlt HR HS hd
      gi_wp2_with fail
      gi_quiet_th (fail)
      obtain⟨fn,tmps,assign,body,hy,hR⟩:=HY.out pre x (wr.drewN nq) (HJ.out _ _ _ none Uv.out (Ext.Hl ((Ext.refl _).drewN _)) (λr e=>by cases e)) hpn
      gi_wp2
      refine hR.mono ?_
      rintro e W3 (⟨rfl,hJ3,Jb⟩|⟨rfl,aAy⟩)
      .have HJ3:=B0 hJ3
       have Kr:=(ZT.ext hsw ((Ext.refl wr).drewN nq)).t Jb
       have Hy:=B0 (O4 HB.out Kr.1)
       have aDA:=B0 (Kr.2 Px.out)
       clear Kr
       clear hJ3 Jb hR hy Uv HB Px
       gi_wp2
       go_roundw
       case rel=>exact aW
       case measure=>exact Qr
      .have HJ3:=B0 aAy
       clear aAy hR hy Uv HB Px
       gi_wp2
       refine J2 (MD rfl _ _ _) rfl ?_
       exact⟨⟨_,rfl⟩,.inr ⟨pre++[x],⟨_,Ou.out⟩,HJ3.out⟩⟩
    .obtain rfl:i=E:=by omega
     have h0:mE.drop i=[]:=O5 (by rw[Gm.out];exact J0 _)
     rw[h0,Rn.aHY,<-hx]at Sy
     have Ou:Hid ((pre++[x])++[]=res):=B0 (by rw[Sy,A3])
     have Aj:Hid (res=(pre++[x])++(if i+1<=i then Rn.rest (i+1-1-i) (mE.drop (i+1-1))else [])):=B0 (by rw[D0 C0,Sy,A3])
     have Dc:Hid (mE[i]? =mE[i+1-1]?\/i+1=i+1):=B0 (.inr rfl)
     have hd9:decide ((i:Int)<(i:Int))=false:=G1 C0
     clear Ho p9 hdi Sy hx hle hlt HR HS h0
     gi_wp2_with fail
     gi_quiet_th (fail)
     obtain⟨fn,tmps,assign,body,hy,hR⟩:=HY.out pre x (wr.drewN nq) (HJ.out _ _ _ none Uv.out (Ext.Hl ((Ext.refl _).drewN _)) (λr e=>by cases e)) hpn
     gi_wp2
     refine hR.mono ?_
     rintro e W3 (⟨rfl,hJ3,Jb⟩|⟨rfl,aAy⟩)
     .have HJ3:=B0 hJ3
      have Kr:=(ZT.ext hsw ((Ext.refl wr).drewN nq)).t Jb
      have Hy:=B0 (O4 HB.out Kr.1)
      have aDA:=B0 (Kr.2 Px.out)
      clear Kr
      clear hJ3 Jb hR hy Uv HB Px
      gi_wp2
      go_roundw
      case rel=>exact aW
      case measure=>exact Qr
     .have HJ3:=B0 aAy
      clear aAy hR hy Uv HB Px
      gi_wp2
      refine J2 (MD rfl _ _ _) rfl ?_
      exact⟨⟨_,rfl⟩,.inr ⟨pre++[x],⟨_,Ou.out⟩,HJ3.out⟩⟩
   .obtain rfl:i=E+1:=by omega
    have HRF:Hid (pre=res):=B0 (by rw[HR.out,D0 C0,A3])
    clear hle HR HS
    gi_wp2
    go_end0
    exact⟨⟨_,rfl⟩,.inl ⟨pre,HRF.out,Uv.out⟩⟩
def ZhD(n:Nat)(hn:1<=n)(Bn n₀:Nat)(v:Value)(m:List Bool)(hm:m.length<=1000000)(w0 w:World)(hv:SlK w0 v (m.map encT))(Gr:w0.heap.size<=n₀)(hX:Ext w0 w)(Mn:n₀<=w.heap.size)(hBn:Boxed w Bn 26 v):
 SeqStopsK Fence.wide n prog 152 #[.pointer (some ⟨Bn,0,none⟩)] (λx:Nat=> #[Value.int .i64 (x:Int)]) (ZT n₀ Bn v) (λys=>ys=Rn.widthsN m) (λpre=>pre<+:Rn.widthsN m) m.length w:=λl J Jx W hW hJ _ hY h0=>
 Zk3 n hn l Bn n₀ v m hm w0 hv Gr J Jx hY W (hX.trans hW) (F3 Mn hW.size) (hBn.kept (Ext.Hl hW) L0) hJ h0
def Rn.aGu:(prog.info? 3).map (λi=>(i.zero,i.size,i.bytes))=some (some (.int .i64 0),1,8):=D1
def BC(v:Value)(m:List Bool)(w:World)(hv:SlK w v (m.map encT))(hm:m.length<=1000000):
 Calls prog 41 #[v] w λe w'=>∃u,e=.returned u/\SlK w' u ((Rn.widths m).map encI)/\Ext w w':=by
 obtain⟨i0,hi,An,p8,x9⟩:=C5 Rn.aGu;obtain⟨j8,a,c,Ok,Eg⟩:=id hv;refine(LK (n:=4)).1 ?_;refine callsIn_of_wp_marks func41 rfl trivial ?_ rfl;simp only[ntmps41,LJ,B1,I3,Nat.reduceAdd,Nat.reduceSub,Array.replicate_succ,Array.replicate_zero,List.push_toArray,List.append_toArray,G4,C3];subst Ok;gi_wp2_with fail;refine⟨trivial,?_⟩;refine(LK.2 (Zk4 _ _ _ _)).mono ?_;rintro e w1 ⟨rfl,rfl⟩;gi_wp2_with fail;have bO:=Boxed.new w 43 (.slice none 0 0);have bN:=Boxed.new (w.alloc (.cells #[.slice none 0 0] 43)) 26 (.slice a (m.map encT).length c);rw[TL]at bN;have hB0:Below w.heap.size w ((w.alloc (.cells #[.slice none 0 0] 43)).alloc (.cells #[.slice a (m.map encT).length c] 26)):=((YK _ w).alloc (J0 _) _).alloc L0 _;have aGf:((w.alloc (.cells #[.slice none 0 0] 43)).alloc (.cells #[.slice a (m.map encT).length c] 26)).heap.size=w.heap.size+2:=by simp
 obtain⟨W0,hW0⟩:∃W0,W0=(w.alloc (.cells #[.slice none 0 0] 43)).alloc (.cells #[.slice a (m.map encT).length c] 26):=⟨_,rfl⟩;rw[<-hW0]at bN hB0 aGf;have bO2:Boxed W0 w.heap.size 43 (.slice none 0 0):=by rw[hW0];exact bO.alloc _
 simp only[M0]at hW0 bN;try simp only[M0]
 rw[<-hW0];refine wpIn_rangeFunc_ownG rfl C0 (gf:=152) (lb:= #[.pointer (some ⟨w.heap.size+1,0,none⟩)]) rfl trivial (enters_of func152 N0 rfl)
  (ZhD 3 C0 (w.heap.size+1) w.heap.size _ m hm w W0 hv (J0 _) hB0 C0 (by rw[M0];exact bN)) ZT.t (ZT.b C0) (YK _ _) (λ_=>rfl)
  (λpre W=>(∃v,Boxed W w.heap.size 43 v/\W.ownsRow w.heap.size 3 1 v pre.length (pre.map λ(x:Nat)=>Value.int .i64 (x:Int))/\True)/\Below w.heap.size W0 W)
  (λ_ _ _=>False)
  (OwnFrom.and (Own.from (holdsRow_own w.heap.size w.heap.size 43 3 1 (λpre:List Nat=>pre.length) (λpre=>pre.map λ(x:Nat)=>Value.int .i64 (x:Int)) (λ_ _=>True)) _) (ownFrom_below C0 C0))
  (λ_ _ _ _ _ hs _ _=>hs)
  ⟨⟨_,bO2,RB _ _ _ _,trivial⟩,YK _ _⟩
  (λx=> {tmps:= #[.slice a m.length c,undef,.slice none 0 0,.pointer (some ⟨w.heap.size,0,none⟩),.int .i64 (x:Int),.slice a m.length c,.func (.func 152) #[] #[.pointer (some ⟨w.heap.size+1,0,none⟩)],.int .i64 (x:Int),undef,undef,undef,undef,undef],defers:=[]}) ?assign ?body ?done ?stop
 case assign=>
  intro l x W K hK
  gi_wp2
  exact hK
 case body=>
  rintro l pre x W ⟨⟨v,hv,k9,-⟩,hB⟩ hlt
  have hc:=hv.cell
  have Le:pre.length+1<=maxLen:=F3 (m:=1000001) C0 I0
  have Mm:(pre.length+1)*8<=140737488355328:=by omega
  have hsw:w.heap.size<=W.heap.size:=by have:=hB.size;omega
  gi_wp2_with (gi_at_builtin;refine wpListIn_append_own _ rfl _ _ 43 rfl w.heap.size 3 i0 (.int .i64 0) 1 8 underlying43 hi An p8 x9 rfl I0 _ _ _ rfl (k9.alloc _) ⟨W.heap.size,0,none⟩ 1 1 [.int .i64 (x:Int)] rfl rfl (cell_one_new _ _ _) (by simp[Value.oneCell']) Le Mm (by rw[TL];omega) ?_;intro v' w1 aBH aBE _;obtain⟨g',aFH,rfl⟩:=ownsRow_succ aBH;obtain⟨Aw,Ez,Aa,Dy,n7⟩:=hv.appended I0 k9 hsw (J0 _) aBH aBE;have Am:=Aw.cell;have hf1:=Aw.frozen;have aFi:=λ(x:Boxed W (w.heap.size+1) 26 (.slice a m.length c))=>(((x.alloc _).kept aBE (x.not_row I0 k9)).kept (grownBy_setCell' w1 w.heap.size (.slice (some ⟨g',0,none⟩) (pre.length+1) aFH)) L0))
  refine⟨Dy.from _,⟨n7,by rw[M0];exact aFi⟩,⟨_,Ez,by simpa using Aa,trivial⟩,hB.trans n7⟩
 case done=>
  rintro D ys W hD rfl ⟨⟨v,hv,k9,-⟩,hB⟩ hK
  have hc:=hv.cell
  gi_wp2
  refine⟨by simp,.inl ⟨_,_,rfl,run_takeDeferred hK,?_⟩⟩
  have Kn:=ownsRow_putObj k9 (.deferred none) hK rfl
  refine⟨_,results_tmp rfl _ _ _,v,rfl,?_,?_⟩
  .have ho:Own 3 (W.putObj D (.deferred none)) w.heap.size v ((Rn.widths m).map encI):=(by unfold Own;have e:(Rn.widths m).map encI=(Rn.widthsN m).map λ(x:Nat)=>Value.int .i64 (x:Int):=(by unfold Rn.widths;rw[K7];rfl);rw[e,M0];exact Kn);exact ho.IW
  .exact O4 (O4 hB0 hB) (belowK_b (w:=w) (J0 _) W D _ _ C0 hK rfl rfl)
 case stop=>rintro D c pre W _ _ h _;exact h.elim
end
end Go.Proofs.Enc
