/-
  Laid.
-/
import Derived.Test.YtbngggoccndefaaGreatDoorUn07
set_option maxHeartbeats 16000000
set_option maxRecDepth 100000
set_option linter.all false
namespace Go.Proofs.YtbngggoccndefaaGreatDoor
open Go.Proofs.Tryz
section
namespace Ea
def mb (b:Bool):UInt8:=if b then 49 else 48
def mS (l:List Bool):List UInt8:=l.map mb
theorem mb_inj {a b:Bool} (h:mb a=mb b):a=b:=by cases a<;>cases b<;>first|rfl|(revert h;decide)
theorem mS_inj {a b:List Bool}:mS a=mS b↔a=b:=by
 refine⟨fun h=> ?_,fun h=>by rw[h]⟩
 induction a generalizing b with
 |nil=>cases b with
  |nil=>rfl
  |cons y b=>simp[mS]at h
 |cons x a ih=>cases b with
  |nil=>simp[mS]at h
  |cons y b=>simp only[mS,I5,VE]at h;rw[mb_inj h.1,ih h.2]
theorem mS_app (a b:List Bool):mS (a++b)=mS a++mS b:=by simp[mS]
theorem mS_len (a:List Bool):(mS a).length=a.length:=by simp[mS]
theorem mS_take (a:List Bool) (n:Nat):(mS a).take n=mS (a.take n):=by simp[mS,I3]
theorem mS_drop (a:List Bool) (n:Nat):(mS a).drop n=mS (a.drop n):=by simp[mS,R3]
theorem mS_prefix (s p:List Bool):Lib.hasPrefix (mS s) (mS p)=decide (s.take p.length=p):=by rw[<-Lib.hasPrefix_of_take,mS_len,mS_len,mS_take,C4];simp only[M2,Y1,Y0,mS_inj];refine⟨fun h=>h.2,fun h=>⟨?_,h⟩⟩;have:=R0 List.length h;exact NQ
theorem mS_suffix (s p:List Bool) (hp:p.length<=s.length):Lib.hasSuffix (mS s) (mS p)=decide (s.drop (s.length-p.length)=p):=by rw[<-Lib.hasSuffix_of_drop,mS_len,mS_len,mS_drop,C4];simp only[M2,Y1,Y0,mS_inj];exact⟨fun h=>h.2,fun h=>⟨hp,h⟩⟩
def cS (t:Nat):UInt8:=UInt8.ofNat (65+t)
def sS (u:List Nat):List UInt8:=u.map cS
theorem cS_inj:∀a b:Fin 3,cS a=cS b->a=b:=by decide
theorem cS_inj' {a b:Nat} (ha:a<3) (hb:b<3) (h:cS a=cS b):a=b:=by have:=cS_inj ⟨a,ha⟩ ⟨b,hb⟩ h;exact E9
theorem sS_inj {a b:List Nat} (ha:∀u∈a,u<3) (hb:∀u∈b,u<3) (h:sS a=sS b):a=b:=by
 induction a generalizing b with
 |nil=>cases b with
  |nil=>rfl
  |cons y b=>simp[sS]at h
 |cons x a ih=>cases b with
  |nil=>simp[sS]at h
  |cons y b=>simp only[sS,I5,VE]at h;rw[cS_inj' (ha x (N2 ..)) (hb y (N2 ..)) h.1,ih (fun u hu=>ha u (V2 _ hu)) (fun u hu=>hb u (V2 _ hu)) h.2]
theorem sS_app (a b:List Nat):sS (a++b)=sS a++sS b:=by simp[sS]
theorem sS_len (a:List Nat):(sS a).length=a.length:=by simp[sS]
def bS (l:List UInt8):ByteArray:=⟨l.toArray⟩
theorem bS_inj {a b:List UInt8}:bS a=bS b↔a=b:=⟨fun h=>by simpa[bS]using h,fun h=>by rw[h]⟩
theorem bS_list (a:List UInt8):(bS a).data.toList=a:=rfl
theorem bS_of (s:ByteArray):bS s.data.toList=s:=Lib.mk_data s
theorem idxFromS_map {α:Type} [DecidableEq α] (f:α->ByteArray) (y:α):∀(l:List α) (i:Nat),(∀z∈l,f z=f y->z=y)->
 Lib.idxFromS (l.map f) (f y) i=(match idx l y with|some n=>((i+n:Nat):Int)|none=> -1):=by
 intro l
 induction l with
 |nil=>intro i _;rfl
 |cons z l ih=>
  intro i h;rw[I5,Lib.idxFromS,idx];by_cases e:z=y;(·subst e;rw[D0 rfl,D0 rfl];rfl)
  ·rw[C0 (fun e2=>e (h z (N2 ..) e2)),C0 e,ih (i+1) (fun z hz=>h z (V2 _ hz))]
   cases idx l y with
   |none=>rfl
   |some n=>simp only[YF];congr 1;omega
def plcO (o:Option Nat):Int:=match o with
 |some n=>(n:Int)
 |none=> -1
theorem idxOfS_map {α:Type} [DecidableEq α] (f:α->ByteArray) (l:List α) (y:α) (h:∀z∈l,f z=f y->z=y):Lib.idxOfS (l.map f) (f y)=plcO (idx l y):=by
 unfold Lib.idxOfS plcO
 rw[idxFromS_map f y l 0 h]
 cases idx l y with
 |none=>rfl
 |some n=>simp
def rowB (t:Nat):List ByteArray:=(tab.getD t []).map (fun m=>bS (mS m))
theorem row_idx (t:Nat) (m:List Bool):Lib.idxOfS (rowB t) (bS (mS m))=plcO (lookT t m):=by unfold rowB lookT;exact idxOfS_map (fun m=>bS (mS m)) _ m (fun z _ h=>mS_inj.1 (bS_inj.1 h))
def leftB:List ByteArray:=setsL.map (fun u=>bS (sS u))
theorem left_small:∀u∈setsL,∀x∈u,x<3:=by decide
theorem left_idx (u:List Nat) (h:∀x∈u,x<3):Lib.idxOfS leftB (bS (sS u))=plcO (find13 u):=
 idxOfS_map (fun u=>bS (sS u)) _ u (fun z hz e=>sS_inj (left_small z hz) h (bS_inj.1 e))
def setsE1:List (List Nat):=setsE0.map (fun l=>l.map (fun x=>1-x))
def compB (y:Nat):List ByteArray:=(if y=0 then setsE0 else setsE1).map (fun u=>bS (sS u))
theorem comp_small0:∀u∈setsE0,∀x∈u,x<3:=by decide
theorem comp_small1:∀u∈setsE1,∀x∈u,x<3:=by decide
theorem comp_idx (y:Nat) (u:List Nat) (h:∀x∈u,x<3):Lib.idxOfS (compB y) (bS (sS u))=plcO (idx (if y=0 then setsE0 else setsE1) u):=
 idxOfS_map (fun u=>bS (sS u)) _ u (fun z hz e=>sS_inj (by split at hz;(·exact comp_small0 z hz);·exact comp_small1 z hz) h (bS_inj.1 e))
theorem findE_eq (u:List Nat):findE u=match idx setsE0 u with
 |some c=>some (0,c)
 |none=>(idx setsE1 u).map (fun c=>(1,c)):=rfl
def dl (l:List UInt8) (us:List Nat):List (List Bool):=List.zipWith (fun c t=>modl t (c.toNat-48)) l us
theorem dl_len {l:List UInt8} {us:List Nat} (h:us.length=l.length):(dl l us).length=l.length:=by unfold dl;rw[List.length_zipWith,h,Nat.min_self]
theorem dl_at {l:List UInt8} {us:List Nat} {i:Nat} {c:UInt8} {t:Nat} (h1:l[i]? =some c) (h2:us[i]? =some t):(dl l us)[i]? =some (modl t (c.toNat-48)):=by unfold dl;rw[List.getElem?_zipWith,h1,h2]
theorem join_draw (sep:List Bool):∀(l:List UInt8) (us:List Nat),us.length=l.length->Lib.join ((dl l us).map mS) (mS sep)=mS (drw sep l us):=by
 intro l
 induction l with
 |nil=>intro us _;rfl
 |cons c l ih=>
  intro us h
  cases us with
  |nil=>simp at h
  |cons u us=>
   have h':us.length=l.length:=M5;have e:dl (c::l) (u::us)=modl u (c.toNat-48)::dl l us:=rfl;rw[drw_cons,e,I5,mS_app];by_cases h0:l=[];(·subst h0;have:us=[]:=L4 (by simpa using h');subst this;rw[D0 rfl,show dl [] []=[]from rfl,B9,Lib.join_one];simp[mS])
   ·rw[C0 h0,mS_app,<-ih us h',Lib.join_cons]
    congr 1
    have hp:0<(dl l us).length:=by rw[dl_len h'];exact MM
    cases hd:dl l us with
    |nil=>rw[hd]at hp;simp at hp
    |cons m r=>rw[I5,Lib.join_cons];simp[Lib.joinTail]
end Ea
end
section
open Go.RowKit
def Znr (m:List Bool) (w:World) (e:Ending) (w':World):Prop:=∃v,e=.returned v∧SlK w' v (m.map encT)∧Ext w w'
theorem MN (s:ByteArray) (m:List Bool) (hs:s.data.toList=Ea.mS m) (hm:m.length<=1000000) (w:World):
 Calls prog 113 #[.string s] w (Znr m w):=by
 have hsz:s.size=m.length:=XZ
 have HS:=A0 hs
 have HZ:=A0 hsz
 have hss:s.size<=1000000:=by omega
 have hmk:=G9 (P:=prog) 26 4 (.bool false) 1 underlying26 G0 rfl .i64 .i64 s.size B0 B0
 clear hs hsz
 go_enter func113,ntmps113
 go_wp2
 clear hmk
 go_loopw [10] (fun i wr=>∃j:Nat,j<=s.size∧i=.int .i64 (j:Int)∧wr.rowIs w.heap.size 4 s.size (fun k=>if k<j then encT (m.getD k false)else .bool false)∧Ext w wr) (fun i _=>s.size-(intOf i).toNat)
 case atStart=>exact NS
 case round=>
  obtain⟨j,hj,rfl,hrow,hxr⟩:=hrel;by_cases hlt:j<s.size
  ·have hcell:=hrow.cell hlt;have hfz:=hrow.frozen j;obtain⟨b,hb⟩:∃b,m[j]? =some b:=⟨_,M0 (by rw[<-HZ.out];exact hlt)⟩;have hsj:s[j]=Ea.mb b:=(by have h1:s.data.toList[j]? =some s[j]:=M0 RM;exact gC);have HB:Hid (m.getD j false=b):=A0 (by rw[U0,hb];rfl);have hbit:((s[j].toNat:Int)==49)=b:=(by rw[hsj];cases b<;>rfl);have HR5:Hid ((wr.setCell ⟨w.heap.size,j,none⟩ (.bool b)).rowIs w.heap.size 4 s.size (fun k=>if k<j+1 then encT (m.getD k false)else .bool false)):=
    A0 ((hrow.set j (.bool b)).congr (fun k hk=>by by_cases h1:k=j;(·subst h1;rw[D0 rfl,D0 B0,HB.out];rfl);·rw[C0 h1];by_cases h2:k<j;(·exact F9);·rw[C0 h2,C0 B0]))
   have HX:=A0 (hxr.setCell (p:=⟨w.heap.size,j,none⟩) (K0 _) (.bool b));clear hrow hxr hb hsj;exact gD
  ·obtain rfl:j=s.size:=B0;have hsl:=SlK.row hrow;clear hj hlt hrow;go_wp2;go_ret;refine⟨_,rfl,hsl.congr ?_,hxr⟩;apply YP;(·simp[HZ.out]);·intro i h1 h2;simp at h1 h2;simp[h1,h2]
theorem ZlY (v:Value) (m:List Bool) (w:World) (hv:SlK w v (m.map encT)) (hm:m.length<=1000000):
 Calls prog 137 #[v] w fun e w'=>e=.returned (.string (Ea.bS (Ea.mS m)))∧Ext w w':=by
 obtain⟨hsl,a,c,rfl,_⟩:=hv
 rw[J0]at hsl⊢
 have HV:=A0 hsl
 have hmk:=G9 (P:=prog) 90 5 (.int .u8 0) 1 underlying90 G0 rfl .i64 .i64 m.length B0 B0
 clear hsl
 go_enter func137,ntmps137
 go_wp2
 clear hmk
 go_loopw [11] (fun i wr=>∃j:Nat,j<=m.length∧i=.int .i64 (j:Int)∧wr.rowIs w.heap.size 5 m.length (fun k=>if k<j then encB (Ea.mb (m.getD k false))else .int .u8 0)∧Ext w wr) (fun i _=>m.length-(intOf i).toNat)
 case atStart=>exact NS
 case round=>
  obtain⟨j,hj,rfl,hrow,hxr⟩:=hrel;by_cases hlt:j<m.length
  ·have hcell:=hrow.cell hlt
   have hfz:=hrow.frozen j
   obtain⟨bb,off,ha,hbl,hc0⟩:=HV.out.at_ (k:=j) XY
   subst ha
   obtain⟨b,hb⟩:∃b,m[j]=b:=⟨_,rfl⟩
   rw[E5,hb]at hc0
   have hcc:=(hxr.cell (p:=⟨bb,off+j,none⟩) hbl).trans hc0
   have HB:Hid (m.getD j false=b):=A0 (by rw[U0,M0 hlt];exact hb)
   have hne:¬bb=w.heap.size:=by omega
   have HX1:=A0 (fun u=>hxr.setCell (p:=⟨w.heap.size,j,none⟩) (K0 _) u)
   have HX2:=A0 (fun u v=>(hxr.setCell (p:=⟨w.heap.size,j,none⟩) (K0 _) u).setCell (p:=⟨w.heap.size,j,none⟩) (K0 _) v)
   have HR1:∀x,encB (Ea.mb b)=x->Hid ((wr.setCell ⟨w.heap.size,j,none⟩ x).rowIs w.heap.size 5 m.length (fun k=>if k<j+1 then encB (Ea.mb (m.getD k false))else .int .u8 0)):=fun x hx=>
    A0 ((hrow.set j x).congr (fun k hk=>by by_cases h1:k=j;(·exact gE);·rw[C0 h1];by_cases h2:k<j;(·exact F9);·rw[C0 h2,C0 B0]))
   have HR2:∀x y,encB (Ea.mb b)=y->Hid (((wr.setCell ⟨w.heap.size,j,none⟩ x).setCell ⟨w.heap.size,j,none⟩ y).rowIs w.heap.size 5 m.length (fun k=>if k<j+1 then encB (Ea.mb (m.getD k false))else .int .u8 0)):=fun x y hx=>
    A0 (((hrow.set j x).set j y).congr (fun k hk=>by by_cases h1:k=j;(·exact gE);·rw[C0 h1,C0 h1];by_cases h2:k<j;(·exact F9);·rw[C0 h2,C0 B0]))
   cases b with
   |true=>have hR:=HR2 (.int .u8 48) (.int .u8 49) rfl;have hrow2:=hrow.set j (.int .u8 48);have hcell2:=hrow2.cell hlt;have hfz2:=hrow2.frozen j;clear hrow hxr HR1 HR2 hrow2 hb;go_wp2;go_roundw;(case rel=>exact⟨j+1,by omega,by go_num,by first|exact hR.out|simpa using hR.out,by first|exact HX2.out _ _|simpa using HX2.out _ _⟩);case measure=>exact Q8
   |false=>have hR:=HR1 (.int .u8 48) rfl;clear hrow hxr HR1 HR2 hb;go_wp2;go_roundw;(case rel=>exact⟨j+1,by omega,by go_num,hR.out,HX1.out _⟩);case measure=>exact Q8
  ·obtain rfl:j=m.length:=B0;have hsl:=Sl.row hrow;have hcv:=Zr (l:=Ea.mS m) (hsl.congr (by apply YP;(·simp[Ea.mS]);·intro i h1 h2;simp at h1;simp[h1,Ea.mS]));clear hj hlt hrow hsl;go_wp2;go_ret;exact⟨rfl,hxr⟩
end
section
namespace Ea
theorem full_ok {k:Int} {l:List UInt8} (h:full k l=0):size k≠0∧digs l=true∧l.length=size k∧(k=4->l.getD 0 0<=49)∧l=l.take (size k-1)++[chkOf k (l.take (size k-1))]:=by
 unfold full at h;split at h;·cases h
 rename_i h1;unfold comp at h;split at h;·cases h
 rename_i h2;split at h;·cases h
 rename_i h3;have h3:digs l=true:=by simpa using h3
 split at h;·cases h
 rename_i h4;split at h;·cases h
 rename_i h5;split at h;·cases h
 rename_i h6;have hl:l.length=size k:=by by_cases e:l.length=size k;(·exact e);·exact absurd ⟨h2,h3,by by_cases e2:l.length+1=size k;exact e2;exact absurd ⟨e,e2⟩ h4⟩ h1
 refine⟨h2,h3,hl,fun e=> ?_,?_⟩;·have:¬49<l.getD 0 0:=fun e2=>h5 ⟨e,e2⟩;exact MO.1 this
 ·by_cases e:l=l.take (size k-1)++[chkOf k (l.take (size k-1))];(·exact e);·exact absurd ⟨hl,e⟩ h6
theorem full_of {k:Int} {l:List UInt8} (h1:size k≠0) (h2:digs l=true) (h3:l.length=size k) (h4:k=4->l.getD 0 0<=49) (h5:l=l.take (size k-1)++[chkOf k (l.take (size k-1))]):full k l=0:=by unfold full;rw[C0 B0];unfold comp;rw[C0 h1,C0 (by simp[h2]),C0 B0,C0 (fun h=>by have:=h4 h.1;exact MO.2 this h.2),C0 (fun h=>h.2 h5)]
theorem full_zero {k:Int} {l:List UInt8} (h1:size k≠0) (h2:digs l=true) (h3:l.length=size k) (h4:k=4->l.getD 0 0<=49):full k l=if l=l.take (size k-1)++[chkOf k (l.take (size k-1))]then 0 else 8:=by
 by_cases h5:l=l.take (size k-1)++[chkOf k (l.take (size k-1))];·rw[D0 h5];exact full_of h1 h2 h3 h4 h5
 ·rw[C0 h5];unfold full;rw[C0 B0];unfold comp;rw[C0 h1,C0 (by simp[h2]),C0 B0,C0 (fun h=>by have:=h4 h.1;exact MO.2 this h.2),D0 ⟨h3,h5⟩]
theorem sets13_ok:∀d:Fin 10,(sets13 d).length=6∧(∀u∈sets13 d,u<2)∧find13 (sets13 d)=some d.1:=by decide
theorem setsE_ok:∀(s:Fin 2) (c:Fin 10),(setsE s c).length=6∧(∀u∈setsE s c,u<2)∧findE (setsE s c)=some (s.1,c.1):=by decide
theorem setsA2_ok:∀d:Fin 4,(setsA2.getD d []).length=2∧∀u∈setsA2.getD d [],u<2:=by decide
theorem setsA5_ok:∀d:Fin 10,(setsA5.getD d []).length=5∧∀u∈setsA5.getD d [],u<2:=by decide
theorem setsAdd_ok {a:List UInt8} (h:a.length=2∨a.length=5):(setsAdd a).length=a.length∧∀u∈setsAdd a,u<2:=by
 unfold setsAdd;rcases h with h|h;·rw[D0 h,h];exact setsA2_ok ⟨_,UO _ B0⟩
 ·rw[C0 B0,h];exact setsA5_ok ⟨_,UO _ B0⟩
theorem find13_some {u:List Nat} {d:Nat} (h:find13 u=some d):d<10∧u=sets13 d:=by have h1:=idx_some h;obtain⟨h2,h3⟩:=I1.1 h1;exact⟨h2,by unfold sets13;rw[U0,h1];rfl⟩
theorem findE_some {u:List Nat} {s c:Nat} (h:findE u=some (s,c)):s<2∧c<10∧u=setsE s c:=by
 unfold findE at h
 cases h0:idx setsE0 u with
 |some c0=>rw[h0]at h;cases h;have h1:=idx_some h0;obtain⟨h2,h3⟩:=I1.1 h1;exact⟨by omega,h2,by unfold setsE;rw[D0 rfl,U0,h1];rfl⟩
 |none=>
  rw[h0]at h
  cases h4:idx (setsE0.map (fun l=>l.map (fun x=>1-x))) u with
  |none=>rw[h4]at h;cases h
  |some c0=>rw[h4]at h;cases h;have h1:=idx_some h4;obtain⟨h2,h3⟩:=I1.1 h1;rw[J0]at h2;refine⟨by omega,h2,?_⟩;unfold setsE;rw[C0 B0,<-h3,E5,U0,M0 h2];rfl
theorem dv_lt {l:List UInt8} (h:digs l=true) (i:Nat):dv l i<10:=by
 unfold dv
 rw[U0]
 cases e:l[i]? with
 |none=>simp
 |some c=>have:=digs_iff.1 h c (J1 e);simp;omega
theorem drw6_len {l:List UInt8} {us:List Nat} (h1:digs l=true) (h2:l.length=6) (h3:us.length=6) (h4:∀u∈us,u<3):(drw [] l us).length=42:=by rw[drw_len [] l us h1 B0 h4,h2];rfl
theorem drw4_len {l:List UInt8} {us:List Nat} (h1:digs l=true) (h2:l.length=4) (h3:us.length=4) (h4:∀u∈us,u<3):(drw [] l us).length=28:=by rw[drw_len [] l us h1 B0 h4,h2];rfl
theorem gd_len:gd.length=3:=rfl
theorem md_len:md.length=5:=rfl
theorem eE_len:eE.length=6:=rfl
theorem sym13_len {l:List UInt8} (h1:digs l=true) (h2:l.length=13):(sym13 l).length=95:=by unfold sym13;obtain⟨a,b,_⟩:=sets13_ok ⟨dv l 0,dv_lt h1 0⟩;simp only[T0,gd_len,md_len];rw[drw6_len (digs_take (digs_drop h1 1) 6) N4 a (fun u hu=>by have:=b u hu;omega),drw6_len (digs_drop h1 7) N4 rfl L0]
theorem sym8_len {l:List UInt8} (h1:digs l=true) (h2:l.length=8):(sym8 l).length=67:=by unfold sym8;simp only[T0,gd_len,md_len];rw[drw4_len (digs_take h1 4) N4 rfl L0,drw4_len (digs_drop h1 4) N4 rfl L0]
theorem symE_len {l:List UInt8} (h1:digs l=true) (h2:l.length=8) (h3:dv l 0<2):(symE l).length=51:=by unfold symE;obtain⟨a,b,_⟩:=setsE_ok ⟨dv l 0,h3⟩ ⟨dv l 7,dv_lt h1 7⟩;simp only[T0,gd_len,eE_len];rw[drw6_len (digs_take (digs_drop h1 1) 6) N4 a (fun u hu=>by have:=b u hu;omega)]
def wOf (k:Int):Nat:=if k=1∨k=3 then 95 else if k=2 then 67 else 51
theorem kinds {k:Int} (h:size k≠0):k=1∨k=2∨k=3∨k=4:=by unfold size at h;(repeat' split at h)<;>omega
theorem dv2 {l:List UInt8} (h1:digs l=true) (h2:0<l.length) (h:l.getD 0 0<=49):dv l 0<2:=by unfold dv;rw[U0,M0 h2]at*;have:(l[0]).toNat<=49:=h;exact S0
theorem digs_cons {c:UInt8} {l:List UInt8} (hc:48<=c.toNat∧c.toNat<=57) (h:digs l=true):digs (c::l)=true:=digs_iff.2 fun x hx=>by
 rcases V3.1 hx with rfl|hx;·exact hc
 ·exact digs_iff.1 h x hx
theorem sym_len {k:Int} {l:List UInt8} (h:full k l=0):(sym k l).length=wOf k:=by
 obtain⟨h1,h2,h3,h4,_⟩:=full_ok h;rcases kinds h1 with rfl|rfl|rfl|rfl;·exact sym13_len h2 h3
 ·exact sym8_len h2 h3
 ·exact sym13_len (digs_cons I0 h2) EG
 ·exact symE_len h2 h3 (dv2 h2 (by rw[h3];decide) (h4 rfl))
theorem gsP_zero (l:List UInt8):(Cd.gsP (48::l)).1=(Cd.gsP l).1:=by
 have:Cd.dg 48=0:=by decide
 rw[Cd.gsP,this];simp
theorem chk_zero (l:List UInt8):chk (48::l)=chk l:=by unfold chk;rw[gsP_zero]
theorem full_13 {l:List UInt8} (h:full 3 l=0):full 1 (48::l)=0:=by
 obtain⟨h1,h2,h3,h4,h5⟩:=full_ok h;refine full_of I0 (digs_cons I0 h2) EG (fun e=>by cases e) ?_;have e1:size 1-1=12:=rfl;have e3:size 3-1=11:=rfl;rw[e3]at h5;rw[e1,SV,J3];congr 1;conv=>lhs;rw[h5]
 congr 2;unfold chkOf;simp[chk_zero]
theorem addn_len {a:List UInt8} (h1:digs a=true) (h2:a.length=2∨a.length=5):(addn a).length=wAdd a.length:=by obtain⟨e1,e2⟩:=setsAdd_ok h2;unfold addn;rw[T0,drw_len gA a _ h1 e1 (fun u hu=>by have:=e2 u hu;omega)];rcases h2 with h2|h2<;>rw[h2]<;>rfl
end Ea
namespace Cd
theorem wt13 (i:Nat):wt [1,3] 10 i=if i%2=0 then 1 else 3:=by
 have h:∀j:Fin 2,((([1,3]:List Int).getD j.1 0).tmod 10+10)%10=if j.1=0 then 1 else 3:=by decide
 exact h ⟨i%2,UO _ I0⟩
theorem ws_gs (s:List UInt8):wsP [1,3] 10 s=(gsF s).1%10:=by
 induction s with
 |nil=>rfl
 |cons c l ih=>simp only[wsP,gsF,ih,wt13,gsF_w];exact Y6
theorem ver_digits (k:Nat) (l:List UInt8) (d:UInt8) (_h1:1<=k) (_h8:k<=8) (h7:k≠7) (h6:k≠6) (hs:AllDig (l++[d])) (hl:(l++[d]).length<=4096):ver k (l++[d])=0↔fits k (l++[d]).length=true∧cmp k l=[d]:=by
 have hz:size k=1:=C0 h6;have hcut:(l++[d]).length-size k=l.length:=by rw[hz,T0,YS];omega
 obtain⟨hda,hdd⟩:=allDig_app hs;have hd0:=hdd d (U3.2 rfl);have ddig:∀c:UInt8,48<=c.toNat∧c.toNat<=57->isDig (c.toNat:Int)=true:=fun c hc=>by simp only[isDig,M2,Y1];omega
 rw[ver_zero_iff,hcut,List.take_left,List.drop_left];constructor;·intro h;exact⟨h.2.1,h.2.2.2.2⟩
 ·intro h;refine⟨hl,h.1,fun c hc=> ?_,fun c hc=> ?_,h.2⟩;(·rw[datB,C0 h7];exact ddig c (hda c hc));·rw[U3]at hc;subst hc;rw[chkB,C0 h7];split;(·rw[ddig c hd0];rfl);·exact ddig c hd0
theorem last_of (s:List UInt8) (h:2<=s.length):∃l d,s=l++[d]∧l≠ []:=by
 have hne:s≠ []:=by rintro rfl;simp at h
 refine⟨s.dropLast,s.getLast hne,(JZ hne).symm,?_⟩;intro e;have:=R0 List.length e;rw[List.length_dropLast]at this;simp only[O4]at this;omega
theorem chr_eq (v:Int) (d:UInt8) (h0:0<=v) (h1:v<=10) (hd:48<=d.toNat∧d.toNat<=57): [chr v]=[d]↔v=dg d:=by
 constructor;·intro h;have e:chr v=d:=M5;rw[<-vx_chr v h0 h1,e,vx_dig hd]
 ·intro h;have:=dg_bd hd;rw[List.cons_eq_cons];refine⟨dg_inj ?_,rfl⟩;rw[dg_chr v h0 B0,h]
theorem sums1 (s:List UInt8) (hs:AllDig s) (h2:2<=s.length) (hl:s.length<=4096):ver 1 s=0↔wsP [1,3] 10 s=0:=by
 obtain⟨l,d,rfl,hne⟩:=last_of s h2;obtain⟨hda,hdd⟩:=allDig_app hs;have hd0:=hdd d (U3.2 rfl);have hb:=dg_bd hd0;rw[ver_digits 1 l d I0 I0 I0 I0 hs hl,ws_gs,gsF_snoc];have hf:fits 1 (l++[d]).length=true:=by show decide (1<(l++[d]).length)=true;exact V0 B0
 simp only[cmp,hf,true_and];rw[chr_eq _ d B0 B0 hd0];omega
end Cd
namespace Ea
theorem allDig {l:List UInt8} (h:digs l=true):Cd.AllDig l:=digs_iff.1 h
theorem split_last {l:List UInt8} (h:0<l.length):∃d,l=l.take (l.length-1)++[d]:=by
 refine⟨l[l.length-1],?_⟩;conv=>lhs;rw[<-J7 (l.length-1) l]
 congr 1;rw[C5 B0,O5 B0]
def good (l:List UInt8):Prop:=l=l.take (l.length-1)++[chk (l.take (l.length-1))]
instance (l:List UInt8):Decidable (good l):=inferInstanceAs (Decidable (l=_))
theorem ver_good {l:List UInt8} (h:digs l=true) (h2:2<=l.length) (h3:l.length<=4096):Cd.verI 1 l=0↔good l:=by
 obtain⟨d,hd⟩:=split_last (l:=l) B0;have hlen:(l.take (l.length-1)).length=l.length-1:=WA
 rw[show(1:Int)=((1:Nat):Int)from rfl,Cd.verI_nat 1 l B0 B0];unfold good;generalize l.take (l.length-1)=r at*;subst hd;rw[Cd.ver_digits 1 r d B0 B0 B0 B0 (allDig h) h3];have hf:Cd.fits 1 (r++[d]).length=true:=by unfold Cd.fits;simp[Cd.size];simp at h2;omega
 constructor;·intro h4;have h5:Cd.cmp 1 r=[d]:=(by first|exact h4.2|exact h4.2.1|exact h4.2.2);have h6:Cd.cmp 1 r=[chk r]:=rfl;rw[<-h5,h6]
 ·intro h4;have h5: [d]=[chk r]:=EH h4;first|exact⟨hf,h5.symm⟩|(refine⟨hf,?_⟩;rw[h5];rfl)
theorem exp7_len {l:List UInt8} (h:l.length=7):(exp7 l).length=11:=by unfold exp7;(repeat' split)<;>simp<;>omega
theorem exp7_digs {l:List UInt8} (h:digs l=true):digs (exp7 l)=true:=by
 have hz4:digs [48,48,48,48]=true:=by decide
 have hz5:digs [48,48,48,48,48]=true:=by decide
 unfold exp7;(repeat' split)<;>simp only[digs_app];·exact⟨⟨⟨digs_take h _,digs_take (digs_drop h _) _⟩,hz4⟩,digs_take (digs_drop h _) _⟩
 ·exact gF
 ·exact gF
 ·exact⟨⟨digs_take h _,hz4⟩,digs_take (digs_drop h _) _⟩
theorem exp8_len {l:List UInt8} (h:l.length=8):(exp8 l).length=12:=by unfold exp8;rw[T0,exp7_len X3,X2];omega
theorem exp8_digs {l:List UInt8} (h:digs l=true):digs (exp8 l)=true:=by unfold exp8;rw[digs_app];exact⟨exp7_digs (digs_take h _),digs_drop h _⟩
theorem exp8_take {l:List UInt8} (h:l.length=8):(exp8 l).take 11=exp7 (l.take 7):=by unfold exp8;exact take_app _ _ _ (exp7_len X3).symm
theorem good_of {k:Int} {l:List UInt8} (h1:size k≠0) (h3:l.length=size k):l=l.take (size k-1)++[chkOf k (l.take (size k-1))]↔good (if k=4 then exp8 l else l):=by
 by_cases h4:k=4;·subst h4;have e:size 4=8:=rfl;rw[e]at h3⊢;rw[D0 rfl];unfold good chkOf;rw[D0 rfl,exp8_len h3,exp8_take h3];obtain⟨d,hd⟩:=split_last (l:=l) B0;rw[h3]at hd;have hdr:l.drop 7=[d]:=(by rw[hd];exact drop_app _ _ _ X3);constructor;(·intro h;have h5: [d]=[chk (exp7 (l.take 7))]:=EH (hd.symm.trans h);show exp8 l=_;unfold exp8;rw[hdr,h5]);·intro h;have h5: [d]=[chk (exp7 (l.take 7))]:=(by unfold exp8 at h;rw[hdr]at h;exact EH h);show l=_;rw[<-h5];exact hd
 ·rw[C0 h4];unfold good chkOf;rw[C0 h4,h3]
theorem len8 {l:List UInt8} (h:l.length=8):∃a0 a1 a2 a3 a4 a5 a6 a7,l=[a0,a1,a2,a3,a4,a5,a6,a7]:=by
 match l,h with
 | [a0,a1,a2,a3,a4,a5,a6,a7],_=>exact⟨_,_,_,_,_,_,_,_,rfl⟩
theorem decF_inv {s:List Bool}:∀(l:List (Nat×Nat)) (e:Int),e≠0->(∀p∈l,fits s p.1 p.2=true->(rdShape s p.1 p.2).2=0->True)->(decF s e l).2=0->∃p∈l,fits s p.1 p.2=true∧(rdShape s p.1 p.2).2=0∧decF s e l=rdShape s p.1 p.2:=by
 intro l
 induction l with
 |nil=>intro e he _ h;exact absurd h he
 |cons p l ih=>intro e he hp h;obtain⟨n,a⟩:=p;rw[decF]at h⊢;by_cases h1:fits s n a=false;(·rw[D0 h1]at h⊢;obtain⟨q,q1,q2⟩:=ih e he (fun _ _ _ _=>trivial) h;exact⟨q,V2 _ q1,q2⟩);·rw[C0 h1]at h⊢;by_cases h2:(rdShape s n a).2=0;(·rw[D0 h2];exact⟨(n,a),N2 ..,by simpa using h1,h2,rfl⟩);·rw[C0 h2]at h⊢;obtain⟨q,q1,q2⟩:=ih _ (by split<;>assumption) (fun _ _ _ _=>trivial) h;exact⟨q,V2 _ q1,q2⟩
def trim (s:List Bool):List Bool:=(s.drop (ldg s)).take (s.length-trl s-ldg s)
theorem dec_ok {s:List Bool} (h:(dec s).2=0):dec s=decF (trim s) 7 shapes:=by
 unfold dec at h⊢;split;·rename_i h1;exact VV
 rename_i h1;rw[C0 h1]at h;split;·exact EI
 rename_i h2;rw[C0 h2]at h;split;·rename_i h3;rw[D0 h3]at h;cases h
 rfl
theorem rdAdd_ok {n:Nat} {s:List Bool} (hn:n=2∨n=5) (h:(rdAdd n s).2=0):(rdAdd n s).1.length=n:=by
 have key:∀(gap m:Nat) (s:List Bool) (l:List UInt8) (u:List Nat),rcg true 0 gap m s=some (l,u)->l.length=m:=by
  intro gap m
  induction m with
  |zero=>intro s l u h;cases h;rfl
  |succ m ih=>
   intro s l u h
   rw[rcg]at h
   cases h1:look true 0 (s.take 7)with
   |none=>rw[h1]at h;cases h
   |some p=>
    rw[h1]at h
    dsimp only at h
    cases h2:rcg true 0 gap m (s.drop (7+gap))with
    |none=>rw[h2]at h;cases h
    |some q=>rw[h2]at h;cases h;simp[ih _ _ _ h2]
 unfold rdAdd at h⊢
 split
 ·rename_i h1;exact VV
 rename_i h1
 rw[C0 h1]at h
 split
 ·exact EI
 rename_i h2
 rw[C0 h2]at h
 cases h3:rcg true 0 2 n (s.drop 4)with
 |none=>rw[h3]at h;cases h
 |some p=>obtain⟨l,u⟩:=p;rw[h3]at h;dsimp only at h⊢;split;(·rename_i h4;rw[D0 h4]at h;cases h);·exact key _ _ _ _ _ h3
end Ea
end
section
open Go.RowKit
theorem EJ (k:Int) (w:World):Calls prog 47 #[.int .i64 k] w fun e w'=>e=.returned (.int .i64 (Ea.size k:Int))∧w=w':=by
 have h:k=1∨k=2∨k=3∨k=4∨(k≠1∧k≠2∧k≠3∧k≠4):=by omega
 rcases h with rfl|rfl|rfl|rfl|⟨h1,h2,h3,h4⟩;·exact RN
 ·exact RN
 ·exact RN
 ·exact RN
 ·have e:Ea.size k=0:=gG;have b1:(k==1)=false:=N0.2 h1;have b2:(k==2)=false:=N0.2 h2;have b3:(k==3)=false:=N0.2 h3;have b4:(k==4)=false:=N0.2 h4;rw[e];clear h1 h2 h3 h4 e;exact RN
theorem ZjT (k:Int) (w:World):Calls prog 108 #[.int .i64 k] w fun e w'=>e=.returned (.tuple #[.int .i64 (Ea.lq k:Int),.int .i64 (Ea.rq k:Int)])∧w=w':=by
 have h:k=1∨k=2∨k=3∨(k≠1∧k≠2∧k≠3):=by omega
 rcases h with rfl|rfl|rfl|⟨h1,h2,h3⟩;·exact MP
 ·exact MP
 ·exact MP
 ·have e:Ea.lq k=9∧Ea.rq k=7:=(by unfold Ea.lq Ea.rq;rw[C0 h1,C0 h2,C0 h3];exact V6);have b1:(k==1)=false:=N0.2 h1;have b2:(k==2)=false:=N0.2 h2;have b3:(k==3)=false:=N0.2 h3;rw[e.1,e.2];clear h1 h2 h3 e;exact MP
theorem MQ (n:Nat) (h:n=0∨n=2∨n=5) (w:World):Calls prog 211 #[.int .i64 (n:Int)] w fun e w'=>e=.returned (.int .i64 (Ea.wAdd n:Int))∧w=w':=by
 rcases h with rfl|rfl|rfl;·exact EK
 ·exact EK
 ·exact EK
theorem gH (s:ByteArray) (h:0<s.size) (w:World):Calls prog 49 #[.string s] w fun e w'=>e=.returned (.bool (s[0]==48 || s[0]==49))∧w=w':=by
 obtain⟨c,hc⟩:∃c,s[0]=c:=⟨_,rfl⟩;rw[hc];have hlt:(0:Int)<(s.size:Int):=by omega
 have e48:∀d:UInt8,(c==d)=((c.toNat:Int)==(d.toNat:Int)):=fun d=>by rw[C4,Y0,Y0];exact⟨fun e=>by rw[e],fun e=>R4.1 B0⟩
 rw[e48,e48];by_cases h0:c.toNat=48;·have b0:((c.toNat:Int)==48)=true:=RO;have b0':(c.toNat==48)=true:=RO;have hres:(((c.toNat:Int)==((48:UInt8).toNat:Int)) || ((c.toNat:Int)==((49:UInt8).toNat:Int)))=true:=RO;rw[hres];clear e48 hres h0;exact EL
 ·have b0:((c.toNat:Int)==48)=false:=N0.2 B0;by_cases h1:c.toNat=49;(·have b1:((c.toNat:Int)==49)=true:=SN;have hres:(((c.toNat:Int)==((48:UInt8).toNat:Int)) || ((c.toNat:Int)==((49:UInt8).toNat:Int)))=true:=SN;rw[hres];clear e48 hres h0 h1;exact EL);·have b1:((c.toNat:Int)==49)=false:=N0.2 B0;have hres:(((c.toNat:Int)==((48:UInt8).toNat:Int)) || ((c.toNat:Int)==((49:UInt8).toNat:Int)))=false:=(by rw[YT];exact⟨b0,b1⟩);rw[hres];clear e48 hres h0 h1;exact EL
theorem EM (s:ByteArray) (hs:s.size<=9223372036854775807) (w:World):
 Calls prog 48 #[.string s] w fun e w'=>e=.returned (.bool (Ea.digs s.data.toList))∧w=w':=by
 obtain⟨res,hres⟩:∃res,Ea.digs s.data.toList=res:=⟨_,rfl⟩
 rw[hres]
 have HRES:=A0 hres
 clear hres
 go_enter func48,ntmps48
 go_wp2
 go_loop [6] (fun i=>∃k:Nat,k<=s.size∧i=.int .i64 (k:Int)∧Hid ((s.data.toList.take k).all (fun c=>Cd.isDig c.toNat)=true)) (fun i=>s.size-(intOf i).toNat)
 case atStart=>exact X4
 case round=>obtain⟨k,hk,rfl,hal⟩:=hrel;by_cases hlt:k<s.size;(·have HA:=A0 (OR s (fun c=>Cd.isDig c.toNat) k hlt);have HN:=A0 (OS s (fun c=>Cd.isDig c.toNat) k hlt);have h3:s[k].toNat<48∨(48<=s[k].toNat∧57<s[k].toNat)∨(48<=s[k].toNat∧s[k].toNat<=57):=B0;rcases h3 with h3|⟨h3,h4⟩|⟨h3,h4⟩;(·have HF:Hid (res=false):=A0 (by rw[<-HRES.out];exact HN.out MR);have b1:(s[k].toNat:Int)<48:=B0;clear h3 HA HN;exact YU);(·have HF:Hid (res=false):=A0 (by rw[<-HRES.out];exact HN.out MR);have b1:¬(s[k].toNat:Int)<48:=B0;have b2:(57:Int)<(s[k].toNat:Int):=B0;clear h3 h4 HA HN;exact YU);·have HO:Hid ((s.data.toList.take (k+1)).all (fun c=>Cd.isDig c.toNat)=true):=A0 gI;have b1:¬(s[k].toNat:Int)<48:=B0;have b2:¬(57:Int)<(s[k].toNat:Int):=B0;clear h3 h4 HA HN;exact RP);·obtain rfl:k=s.size:=B0;have HF:Hid (res=true):=A0 (by rw[<-HRES.out];have:=hal.out;rw[Z3]at this;exact this);clear hk hlt hal;exact YU
theorem bl1 (a b:UInt8):Op.bytesLess [a] [b]=decide (a<b):=by simp[Op.bytesLess]
theorem Znf {a:ByteArray} {l:List UInt8} (h:a.data.toList=l):Ending.returned (.string a)=.returned (.string (Ea.bS l)):=by rw[<-h,Ea.bS_of]
theorem gJ (s:ByteArray) (h8:s.size=8) (w:World):
 Calls prog 51 #[.string s] w fun e w'=>e=.returned (.string (Ea.bS (Ea.exp8 s.data.toList)))∧Ext w w':=by
 obtain⟨res,hres⟩:∃res,Ea.exp8 s.data.toList=res:=⟨_,rfl⟩
 rw[hres]
 obtain⟨a0,a1,a2,a3,a4,a5,a6,a7,hl⟩:=Ea.len8 (l:=s.data.toList) (by rw[Zd];exact h8)
 rw[hl]at hres
 have HR:=A0 hres
 have HL:=A0 hl
 clear hres hl
 go_enter func51,ntmps51
 go_wp2
 go_quiet (fail)
 obtain⟨N,hN⟩:∃N,s.extract 0 1=N:=⟨_,rfl⟩
 obtain⟨D,hD⟩:∃D,s.extract 1 7=D:=⟨_,rfl⟩
 obtain⟨C,hC⟩:∃C,s.extract 7 8=C:=⟨_,rfl⟩
 rw[hN,hD,hC]
 have HN:Hid (N.data.toList=[a0]):=A0 (by rw[<-hN,Z0,HL.out];rfl)
 have HD:Hid (D.data.toList=[a1,a2,a3,a4,a5,a6]):=A0 (by rw[<-hD,Z0,HL.out];rfl)
 have HC:Hid (C.data.toList=[a7]):=A0 (by rw[<-hC,Z0,HL.out];rfl)
 have hDs:D.size=6:=by rw[Zf HD.out];rfl
 have hNs:N.size=1:=by rw[Zf HN.out];rfl
 have hCs:C.size=1:=by rw[Zf HC.out];rfl
 clear hN hD hC
 have HQ:Hid ((D.extract 5 6).toList=[a6]):=A0 (by rw[C2,Z0,HD.out];rfl)
 have HF:Hid (∀(x:ByteArray),x.data.toList=res->Ending.returned (.string x)=.returned (.string (Ea.bS res))):=A0 (fun x hx=>Znf hx)
 have h:a6.toNat<=50∨a6.toNat=51∨a6.toNat=52∨52<a6.toNat:=by omega
 have HE:Hid ((D.extract 5 6).data.toList=[a6]):=A0 (by rw[Z0,HD.out];rfl)
 rcases h with h|h|h|h
 ·have q0:(Op.bytesLess (D.extract 5 6).toList [50] || (D.extract 5 6).toList== [50])=true:=(by rw[HQ.out,bl1,B7,Y1,Y0,EN];have:(50:UInt8).toNat=50:=rfl;by_cases e:a6.toNat=50;(·exact .inr (by rw[show a6=50 from R4.1 e]));·exact .inl B0);have c1:a6<=50:=(by rw[RQ];exact h);have HG:Hid ((N++D.extract 0 2++D.extract 5 6++⟨#[48,48,48,48]⟩++D.extract 2 5++C).data.toList=res):=A0 (by rw[<-HR.out];simp only[Y3,F4,HN.out,HC.out,HE.out,Z0,HD.out];unfold Ea.exp8 Ea.exp7;simp[c1]);exact EO
 ·obtain rfl:a6=51:=R4.1 h;have q0:(Op.bytesLess (D.extract 5 6).toList [50] || (D.extract 5 6).toList== [50])=false:=(by rw[HQ.out,bl1];rfl);have q1:((D.extract 5 6).toList== [51])=true:=(by rw[HQ.out];rfl);have HG:Hid ((N++D.extract 0 3++⟨#[48,48,48,48,48]⟩++D.extract 3 5++C).data.toList=res):=A0 gK;exact EO
 ·obtain rfl:a6=52:=R4.1 h;have q0:(Op.bytesLess (D.extract 5 6).toList [50] || (D.extract 5 6).toList== [50])=false:=(by rw[HQ.out,bl1];rfl);have q1:((D.extract 5 6).toList== [51])=false:=(by rw[HQ.out];rfl);have q2:((D.extract 5 6).toList== [52])=true:=(by rw[HQ.out];rfl);have HG:Hid ((N++D.extract 0 4++⟨#[48,48,48,48,48]⟩++D.extract 4 5++C).data.toList=res):=A0 gK;exact EO
 ·have n50:¬a6<=50:=gL;have n51:¬a6=51:=MS;have n52:¬a6=52:=MS;have q0:(Op.bytesLess (D.extract 5 6).toList [50] || (D.extract 5 6).toList== [50])=false:=(by rw[HQ.out,bl1,YT,WB,N0];refine⟨fun hh=>n50 (UInt8.le_of_lt hh),fun hh=>n50 ?_⟩;rw[show a6=50 by simpa using hh];exact UInt8.le_refl _);have q1:((D.extract 5 6).toList== [51])=false:=(by rw[HQ.out,N0];simpa using n51);have q2:((D.extract 5 6).toList== [52])=false:=(by rw[HQ.out,N0];simpa using n52);have HG:Hid ((N++D.extract 0 5++⟨#[48,48,48,48]⟩++D.extract 5 6++C).data.toList=res):=A0 (by rw[<-HR.out];simp only[Y3,F4,HN.out,HC.out,HE.out,Z0,HD.out];unfold Ea.exp8 Ea.exp7;simp[n50,n51,n52]);clear h n50 n51 n52;go_wp2;go_ret;exact⟨HF.out _ HG.out,Xf⟩
theorem Zke {k:Int} {l:List UInt8} (h:Ea.digs l=true) (hk:(k=4∧l.length=8)∨(k≠4∧2<=l.length∧l.length<=4096)):
 Cd.verI 1 (if k=4 then Ea.exp8 l else l)=0↔Ea.good (if k=4 then Ea.exp8 l else l):=by
 rcases hk with⟨rfl,h8⟩|⟨hk,h2,h3⟩
 ·rw[D0 rfl];exact Ea.ver_good (Ea.exp8_digs h) (by rw[Ea.exp8_len h8];omega) (by rw[Ea.exp8_len h8];omega)
 ·rw[C0 hk];exact Ea.ver_good h h2 h3
theorem RR (k:Int) (s:ByteArray) (hd:Ea.digs s.data.toList=true) (hk:(k=4∧s.size=8)∨(k≠4∧2<=s.size∧s.size<=4096)) (w:World):
 Calls prog 50 #[.int .i64 k,.string s] w fun e w'=>e=.returned (.bool (decide (Ea.good (if k=4 then Ea.exp8 s.data.toList else s.data.toList))))∧Ext w w':=by
 have hi:=Zke (k:=k) hd (by rw[Zd];exact hk)
 obtain⟨res,hres⟩:∃res,decide (Ea.good (if k=4 then Ea.exp8 s.data.toList else s.data.toList))=res:=⟨_,rfl⟩
 rw[hres]
 have HR:Hid ((Cd.verI 1 (if k=4 then Ea.exp8 s.data.toList else s.data.toList)==0)=res):=A0 (by rw[<-hres,C4,Y0,Y1];exact hi)
 clear hres hi hd
 rcases hk with⟨rfl,h8⟩|⟨hk,h2,h3⟩
 ·rw[D0 rfl]at HR;have HX:=A0 (gJ s h8);have hsz:(Ea.bS (Ea.exp8 s.data.toList)).size<=9223372036854775807:=(by rw[Zf (Ea.bS_list _),Ea.exp8_len (by rw[Zd];exact h8)];omega);have HV:=A0 (fun w=>GR 1 (Ea.bS (Ea.exp8 s.data.toList)) w hsz);rw[Ea.bS_list]at HV;generalize Ea.exp8 s.data.toList=u at*;clear hsz;generalize Ea.bS u=U at*;go_enter func50,ntmps50;go_wp2_with fail;refine(HX.out _).mono ?_;rintro e w1 ⟨rfl,hx1⟩;go_wp2_with fail;refine(HV.out _).mono ?_;rintro e w2 ⟨rfl,hx2⟩;generalize Cd.verI 1 u=r at*;cases hb:r==0<;>rw[hb]at HR;(·go_wp2;go_ret;exact⟨Zm HR.out,hx1.trans hx2⟩);·go_wp2;go_ret;exact⟨Zm HR.out,hx1.trans hx2⟩
 ·rw[C0 hk]at HR;have hkb:(k==4)=false:=N0.2 hk;have HV:=A0 (fun w=>GR 1 s w B0);clear hk h2 h3;go_enter func50,ntmps50;go_wp2_with fail;refine(HV.out _).mono ?_;rintro e w2 ⟨rfl,hx2⟩;generalize Cd.verI 1 s.data.toList=r at*;cases hb:r==0<;>rw[hb]at HR;(·go_wp2;go_ret;exact⟨Zm HR.out,hx2⟩);·go_wp2;go_ret;exact⟨Zm HR.out,hx2⟩
def strE (r:List UInt8×Int):Value:=.tuple #[.string (Ea.bS r.1),.int .i64 r.2]
theorem ZkT (s:ByteArray) (h:0<s.size):s.data.toList.getD 0 0=s[0]:=VK
theorem rE (s:ByteArray) (h:0<s.size) (hd:Ea.digs s.data.toList=true):(s[0]==48 || s[0]==49)=decide (s.data.toList.getD 0 0<=49):=by
 have h1:=Ea.digs_iff.1 hd s[0] (Zn s 0 h);rw[ZkT s h];generalize s[0]=c at*;rw[C4,B7,Y0,Y0,Y1,RQ];constructor;·rintro(rfl|rfl)<;>decide
 ·intro h2;have h2:c.toNat<=49:=h2;have h3:c.toNat=48∨c.toNat=49:=B0;rcases h3 with h3|h3;(·exact .inl (R4.1 h3));·exact .inr (R4.1 h3)
theorem rF (k:Int) (l:List UInt8):Ea.full k l=if Ea.size k=0 then 1 else if Ea.digs l=false then 6 else if l.length≠Ea.size k then 7 else if k=4∧¬l.getD 0 0<=49 then 9
 else if Ea.good (if k=4 then Ea.exp8 l else l)then 0 else 8:=by
 by_cases h1:Ea.size k=0
 ·rw[D0 h1];unfold Ea.full Ea.comp;rw[C0 (fun h=>h.1 h1),D0 h1]
 ·rw[C0 h1];by_cases h2:Ea.digs l=false;(·rw[D0 h2];unfold Ea.full Ea.comp;rw[C0 (fun h=>by rw[h2]at h;exact Bool.noConfusion h.2.1),C0 h1,D0 h2]);·rw[C0 h2];have h2':Ea.digs l=true:=B8;by_cases h3:l.length≠Ea.size k;(·rw[D0 h3];unfold Ea.full;by_cases h4:l.length+1=Ea.size k;(·rw[D0 ⟨h1,h2',h4⟩]);·rw[C0 (fun h=>h4 h.2.2)];unfold Ea.comp;rw[C0 h1,C0 h2,D0 ⟨h3,h4⟩]);·rw[C0 h3];have h3':l.length=Ea.size k:=B0;by_cases h4:k=4∧¬l.getD 0 0<=49;(·rw[D0 h4];unfold Ea.full;rw[C0 B0];unfold Ea.comp;rw[C0 h1,C0 h2,C0 B0,D0 ⟨h4.1,UInt8.not_le.1 h4.2⟩]);·rw[C0 h4,Ea.full_zero h1 h2' h3' (fun e=>by by_cases e2:l.getD 0 0<=49;exact e2;exact absurd ⟨e,e2⟩ h4)];have hg:=Ea.good_of h1 h3';by_cases h5:Ea.good (if k=4 then Ea.exp8 l else l);(·rw[D0 h5,D0 (hg.2 h5)]);·rw[C0 h5,C0 (fun h=>h5 (hg.1 h))]
theorem rG (l:List UInt8) (hd:Ea.digs l=true) (h1:1<=l.length) (h2:l.length<=4000):Cd.compI 1 l=([Ea.chk l],0):=by
 unfold Cd.compI;rw[C0 B0];show Cd.comp 1 l=_;unfold Cd.comp;rw[C0 (fun e=>by rw[e]at h1;simp at h1),C0 B0,C0,C0];·rfl
 ·have:Cd.fits 1 (l.length+Cd.size 1)=true:=(by show decide (1<l.length+1)=true;rw[Y1];omega);rw[this];simp
 ·rw[UE];exact hd
theorem ZfG (k:Int) (s:ByteArray) (hs:s.size<=9223372036854775807) (w:World):
 Calls prog 17 #[.int .i64 k,.string s] w fun e w'=>e=.returned (strE (Ea.comp k s.data.toList))∧Ext w w':=by
 have HX:=A0 (Ea.comp.eq_1 k s.data.toList)
 have HD:=A0 (EM s hs)
 have HZ:=A0 (EJ k)
 rw[Zd]at HX
 by_cases h1:Ea.size k=0
 ·rw[D0 h1]at HX;rw[h1]at HZ;generalize Ea.comp k s.data.toList=res at*;clear h1;go_enter func17,ntmps17;go_wp2_with fail;refine(HZ.out _).mono ?_;exact DD
 ·rw[C0 h1]at HX;have hkk:=Ea.kinds h1;obtain⟨hn1,hn2⟩:8<=Ea.size k∧Ea.size k<=13:=DE;have hn4:k=4->Ea.size k=8:=(by rintro rfl;rfl);by_cases h2:Ea.digs s.data.toList=false;(·rw[D0 h2]at HX;rw[h2]at HD;generalize Ea.comp k s.data.toList=res at*;generalize Ea.size k=n at*;have b1:((n:Int)==0)=false:=N0.2 B0;clear h1 h2 hkk hn4;go_enter func17,ntmps17;exact DF);·have h2':Ea.digs s.data.toList=true:=B8;rw[C0 h2]at HX;rw[h2']at HD;have b1:((Ea.size k:Int)==0)=false:=N0.2 B0;by_cases h3:s.size≠Ea.size k∧s.size+1≠Ea.size k;(·rw[D0 h3]at HX;generalize Ea.comp k s.data.toList=res at*;generalize Ea.size k=n at*;have b3:((s.size:Int) !=(n:Int))=true:=S0;have b4:((s.size:Int) !=(n:Int)-1)=true:=S0;clear h1 h2 hkk hn4 h3 h2';go_enter func17,ntmps17;exact DF);·rw[C0 h3]at HX;have h0:0<s.size:=B0;have HN:=A0 (gH s h0);rw[rE s h0 h2']at HN;have H48:=A0 hn4;clear hn4;by_cases h4:k=4∧49<s.data.toList.getD 0 0;(·rw[D0 h4]at HX;obtain⟨rfl,h4⟩:=h4;rw[X0 (UInt8.not_le.2 h4)]at HN;generalize Ea.comp 4 s.data.toList=res at*;generalize Ea.size 4=n at*;by_cases h5:s.size=n;(·have b3:((s.size:Int) !=(n:Int))=false:=S0;exact rH);·have b3:((s.size:Int) !=(n:Int))=true:=S0;have b4:((s.size:Int) !=(n:Int)-1)=false:=S0;exact rH);·rw[C0 h4]at HX;have h49:k=4->s.data.toList.getD 0 0<=49:=fun e=>MO.1 fun e2=>h4 ⟨e,e2⟩;clear h4;by_cases h5:s.size=Ea.size k;(·have HRI:=A0 (RR k s h2' (by by_cases e:k=4;exact .inl ⟨e,by rw[h5,H48.out e]⟩;exact .inr ⟨e,by omega,by omega⟩));have hg:=Ea.good_of h1 (by rw[Zd];exact h5);have HTK:Hid (Ea.good (if k=4 then Ea.exp8 s.data.toList else s.data.toList)->s.data.toList.take (Ea.size k-1)++[Ea.chkOf k (s.data.toList.take (Ea.size k-1))]=s.data.toList):=A0 (fun h=>(hg.2 h).symm);have HX8:Hid (Ea.comp k s.data.toList=if Ea.good (if k=4 then Ea.exp8 s.data.toList else s.data.toList)then(s.data.toList,0)else([],8)):=A0 (by rw[HX.out];by_cases h6:Ea.good (if k=4 then Ea.exp8 s.data.toList else s.data.toList);(·rw[C0 (fun hh=>hh.2 (hg.2 h6)),D0 h6,HTK.out h6]);·rw[D0 ⟨h5,fun hh=>h6 (hg.1 hh)⟩,C0 h6]);have b3:((s.size:Int) !=(Ea.size k:Int))=false:=S0;have b5:((s.size:Int)==(Ea.size k:Int))=true:=S0;have HBS:Hid (Value.string s=.string (Ea.bS s.data.toList)):=A0 (by rw[Ea.bS_of]);clear HX hg HTK;by_cases h4:k=4;(·subst h4;rw[V0 (h49 rfl)]at HN;generalize Ea.comp 4 s.data.toList=res at*;generalize Ea.size 4=n at*;by_cases h6:Ea.good (if(4:Int)=4 then Ea.exp8 s.data.toList else s.data.toList);(·rw[V0 h6]at HRI;have HX:=A0 (HX8.out.trans (D0 h6));clear h1 h2 hkk h3 h2' h5 h6 HX8;go_enter func17,ntmps17;go_wp2_with fail;refine(HZ.out _).mono ?_;rintro e w1 ⟨rfl,rfl⟩;go_wp2_with fail;refine(HD.out _).mono ?_;rintro e w1 ⟨rfl,rfl⟩;go_wp2_with fail;refine(HN.out _).mono ?_;exact rI);·rw[X0 h6]at HRI;have HX:=A0 (HX8.out.trans (C0 h6));clear h1 h2 hkk h3 h2' h5 h6 HX8;go_enter func17,ntmps17;go_wp2_with fail;refine(HZ.out _).mono ?_;rintro e w1 ⟨rfl,rfl⟩;go_wp2_with fail;refine(HD.out _).mono ?_;rintro e w1 ⟨rfl,rfl⟩;go_wp2_with fail;refine(HN.out _).mono ?_;exact rJ);·have b4:(k==4)=false:=N0.2 h4;generalize Ea.comp k s.data.toList=res at*;generalize Ea.size k=n at*;by_cases h6:Ea.good (if k=4 then Ea.exp8 s.data.toList else s.data.toList);(·rw[V0 h6]at HRI;have HX:=A0 (HX8.out.trans (D0 h6));clear h1 h2 hkk h3 h2' h5 h6 HX8 h4 h49;go_enter func17,ntmps17;go_wp2_with fail;refine(HZ.out _).mono ?_;rintro e w1 ⟨rfl,rfl⟩;go_wp2_with fail;refine(HD.out _).mono ?_;exact rI);·rw[X0 h6]at HRI;have HX:=A0 (HX8.out.trans (C0 h6));clear h1 h2 hkk h3 h2' h5 h6 HX8 h4 h49;go_enter func17,ntmps17;go_wp2_with fail;refine(HZ.out _).mono ?_;rintro e w1 ⟨rfl,rfl⟩;go_wp2_with fail;refine(HD.out _).mono ?_;exact rJ);·have h6:s.size+1=Ea.size k:=B0;have hT:s.data.toList.take (Ea.size k-1)=s.data.toList:=X1 YN;have HX9:Hid (Ea.comp k s.data.toList=(s.data.toList++[Ea.chkOf k s.data.toList],0)):=A0 (by rw[HX.out,C0 (fun h=>h5 h.1),hT]);have b3:((s.size:Int) !=(Ea.size k:Int))=true:=S0;have b4:((s.size:Int) !=(Ea.size k:Int)-1)=false:=S0;have b5:((s.size:Int)==(Ea.size k:Int))=false:=S0;have HOUT:Hid (∀c:UInt8,Value.string (s++⟨[c].toArray⟩)=.string (Ea.bS (s.data.toList++[c]))):=A0 (fun c=>by rw[<-Ea.bS_of (s++⟨[c].toArray⟩),Y3,F4]);clear HX hT;by_cases h4:k=4;(·subst h4;rw[V0 (h49 rfl)]at HN;have h7:s.size=7:=(by have:=H48.out rfl;omega);have hZs:(s++⟨#[48]⟩:ByteArray).size=8:=(by rw[WF,h7];rfl);have HEX:=A0 (gJ (s++⟨#[48]⟩) hZs);have hE7:(Ea.exp8 (s++⟨#[48]⟩:ByteArray).data.toList).take 11=Ea.exp7 s.data.toList:=(by rw[Ea.exp8_take (by rw[Zd];exact hZs)];congr 1;rw[Y3,F4];exact Ea.take_app _ _ _ (by rw[Zd];exact h7.symm));have hEs:(Ea.bS (Ea.exp8 (s++⟨#[48]⟩:ByteArray).data.toList)).size=12:=(by rw[Zf (Ea.bS_list _),Ea.exp8_len (by rw[Zd];exact hZs)]);have hEC:((Ea.bS (Ea.exp8 (s++⟨#[48]⟩:ByteArray).data.toList)).extract 0 11).data.toList=Ea.exp7 s.data.toList:=(by rw[Zy,Ea.bS_list,hE7]);have HCO:=A0 (rG (Ea.exp7 s.data.toList) (Ea.exp7_digs h2') (by rw[Ea.exp7_len LB];omega) (by rw[Ea.exp7_len LB];omega));have hk4:Ea.chkOf 4 s.data.toList=Ea.chk (Ea.exp7 s.data.toList):=rfl;rw[hk4]at HX9;generalize Ea.comp 4 s.data.toList=res at*;generalize Ea.bS (Ea.exp8 (s++⟨#[48]⟩:ByteArray).data.toList)=U at*;have HCM:=A0 (fun w=>OU 1 (U.extract 0 11) w YD);rw[hEC,HCO.out]at HCM;have HZ3:=A0 (EJ 3);rw[show((Ea.size 3:Nat):Int)=12 from rfl]at HZ3;generalize Ea.size 4=n at*;generalize Ea.chk (Ea.exp7 s.data.toList)=cd at*;have h7':s.size<=7:=B0;clear h1 h2 hkk h3 h2' h5 h6 hE7 hEC HCO hk4 H48 hZs h49 h7;go_enter func17,ntmps17;go_wp2_with fail;refine(HZ.out _).mono ?_;rintro e w1 ⟨rfl,rfl⟩;go_wp2_with fail;refine(HD.out _).mono ?_;rintro e w1 ⟨rfl,rfl⟩;go_wp2_with fail;refine(HN.out _).mono ?_;rintro e w1 ⟨rfl,rfl⟩;go_wp2_with fail;refine(HEX.out _).mono ?_;rintro e w2 ⟨rfl,hx2⟩;go_wp2_with fail;refine(HZ3.out _).mono ?_;rintro e w1 ⟨rfl,rfl⟩;go_wp2_with fail;refine(HCM.out _).mono ?_;rintro e w3 ⟨rfl,hx3⟩;dsimp only;go_wp2;go_ret2;exact⟨by rw[HX9.out,HOUT.out];rfl,hx2.trans hx3⟩);·have b6:(k==4)=false:=N0.2 h4;have HCO:=A0 (rG s.data.toList h2' YN YN);have hk4:Ea.chkOf k s.data.toList=Ea.chk s.data.toList:=(by unfold Ea.chkOf;rw[C0 h4]);rw[hk4]at HX9;have HCM:=A0 (fun w=>OU 1 s w hs);rw[HCO.out]at HCM;generalize Ea.comp k s.data.toList=res at*;generalize Ea.size k=n at*;generalize Ea.chk s.data.toList=cd at*;have hs13:s.size<=13:=B0;clear h1 h2 hkk h3 h2' h5 h6 HCO hk4 H48 h49 h4;go_enter func17,ntmps17;go_wp2_with fail;refine(HZ.out _).mono ?_;rintro e w1 ⟨rfl,rfl⟩;go_wp2_with fail;refine(HD.out _).mono ?_;rintro e w1 ⟨rfl,rfl⟩;go_wp2_with fail;refine(HCM.out _).mono ?_;rintro e w3 ⟨rfl,hx3⟩;dsimp only;go_wp2;go_ret2;exact⟨by rw[HX9.out,HOUT.out];rfl,hx3⟩
theorem ZT (s:ByteArray):encS s.data.toList=.string s:=by unfold encS;rw[Z4]
def elC (xs:List Gs.El):List Value:=xs.flatMap fun x=>[encS x.1,encS x.2]
theorem ZkN (xs:List Gs.El) (x:Gs.El):elC (xs++[x])=elC xs++[encS x.1,encS x.2]:=by simp[elC]
theorem Zn4 (xs:List Gs.El):∀(i:Nat) (x:Gs.El),xs[i]? =some x->(elC xs)[i*2]? =some (encS x.1)∧(elC xs)[i*2+1]? =some (encS x.2):=by
 induction xs with
 |nil=>intro i x h;simp at h
 |cons y ys ih=>
  intro i x h
  cases i with
  |zero=>simp only[B3,I2]at h;subst h;exact⟨rfl,rfl⟩
  |succ i=>rw[D5]at h;have:=ih i x h;have e1:(i+1)*2=i*2+1+1:=B0;rw[e1];simp only[elC,F8,J3,P5,D5]at this⊢;exact F3
def EOwn (w:World) (B:Nat) (v:Value) (xs:List Gs.El):Prop:=w.ownsRow B 86 2 v xs.length (elC xs)
theorem EOwn.nil (w:World) (B:Nat):EOwn w B (.slice none 0 0) []:=OF _ _ _ _
section
variable {w w':World} {B:Nat} {v:Value} {xs:List Gs.El}
theorem EOwn.ext (h:EOwn w B v xs) (hx:Ext w w'):EOwn w' B v xs:=by
 refine XI h hx.asGrown ?_
 cases hv:v.ownBlock with
 |none=>exact .inl rfl
 |some k=>exact .inr L0
theorem EOwn.low (h:EOwn w B v xs):∀k,v.ownBlock=some k->B<=k:=fun k hk=>(U5 h k hk).1
end
def ESl (w:World) (v:Value) (xs:List Gs.El):Prop:=
 (xs=[]∧∃a c,v=.slice a 0 c)∨∃b off cap,v=.slice (some ⟨b,off,none⟩) xs.length cap∧b<w.heap.size∧∀i x,xs[i]? =some x->w.cell? ⟨b,off+i*2,none⟩=some (encS x.1)∧w.cell? ⟨b,off+i*2+1,none⟩=some (encS x.2)
theorem ESl.ext {w w':World} {v:Value} {xs:List Gs.El} (h:ESl w v xs) (hx:Ext w w'):ESl w' v xs:=by
 rcases h with h|⟨b,off,cap,h1,h2,h3⟩;·exact .inl h
 ·refine .inr ⟨b,off,cap,h1,G2 h2 hx.size,fun i x hi=> ?_⟩;rw[hx.cell (p:=⟨b,off+i*2,none⟩) h2,hx.cell (p:=⟨b,off+i*2+1,none⟩) h2];exact h3 i x hi
theorem EOwn.sl {w:World} {B:Nat} {v:Value} {xs:List Gs.El} (h:EOwn w B v xs):ESl w v xs:=by
 rcases h.2 with⟨hnil,h0⟩|⟨g,cap,cur,hv,hbase,hb,h1,h2,h3,h4⟩;·exact zP
 ·refine .inr ⟨g,0,cap,hv,(O3.1 hb).1,fun i x hi=> ?_⟩;have hh:=h;unfold EOwn at hh;rw[hv]at hh;have hil:i<xs.length:=(by rcases P4 i xs.length with h|h;(·exact h);·rw[YJ h]at hi;simp at hi);rw[T4,hh.cellAt (i*2) B0,hh.cellAt (i*2+1) B0];exact Zn4 xs i x hi
theorem ESl.form {w:World} {v:Value} {xs:List Gs.El} (h:ESl w v xs):∃a c,v=.slice a xs.length c:=zQ
theorem ESl.at_ {w:World} {a:Option Addr} {n c:Nat} {xs:List Gs.El} (h:ESl w (.slice a n c) xs) {k:Nat} {x:Gs.El} (hk:xs[k]? =some x):
 ∃b off,a=some ⟨b,off,none⟩∧b<w.heap.size∧w.cell? ⟨b,off+k*2,none⟩=some (encS x.1)∧w.cell? ⟨b,off+k*2+1,none⟩=some (encS x.2):=by
 rcases h with⟨rfl,_⟩|⟨b,off,cap,he,hb,hc⟩
 ·simp at hk
 ·injection he with h1 h2 h3;exact⟨b,off,h1,hb,hc k x hk⟩
theorem ZmE:(prog.info? 86).map (fun i=>(i.zero,i.size,i.bytes))=some (some (.agg #[.string ⟨#[]⟩,.string ⟨#[]⟩]),2,32):=B1
theorem LP {w:World} {ops:Array Oper} {rest:List Oper} {o:Oper} {a:Act} {Q:Exit->Act->World->Prop} (hgd:o.guard=none) (s x:Operand)
 (ho:o.op=.call {callee:=.builtin .append,args:= #[s,x],argTypes:= #[39,39]})
 (B:Nat) (v:Value) (xs:List Gs.El) (hs:a.eval s=v) (hown:EOwn w B v xs) (b:Nat) (u:Gs.El) (hx:a.eval x=.slice (some ⟨b,0,none⟩) 1 1)
 (hc:w.cell? ⟨b,0,none⟩=some (encS u.1)) (hc1:w.cell? ⟨b,1,none⟩=some (encS u.2)) (hn:xs.length<=999999999) (hB:B<=w.heap.size)
 (h:∀v' w',EOwn w' B v' (xs++[u])->w.grownBy w' v.ownBlock->wpList prog ops Q rest (a.put o.dst v') w'):wpList prog ops Q (o::rest) a w:=by
 obtain⟨i0,hi,hz0,hz1,hz2⟩:=V5 ZmE
 refine VG _ hgd s x 39 ho B 86 i0 _ 2 32 underlying39 hi hz0 hz1 hz2 rfl I0 v xs.length (elC xs) hs hown ⟨b,0,none⟩ 1 1 [encS u.1,encS u.2] hx rfl ?_ ?_ ?_ ?_ hB ?_
 ·intro j u' hj
  rw[VF]
  match j with
  |0=>simp only[B3,I2]at hj;subst hj;exact hc
  |1=>simp only[D5,B3,I2]at hj;subst hj;exact hc1
  |j+2=>simp at hj
 ·exact bP
 ·exact V7
 ·exact bQ
 ·intro v' w' h1 h2 _;refine h v' w' ?_ h2;unfold EOwn;rw[T0,ZkN];exact h1
end
section
namespace Ln
theorem dark_core (s:List Bool):dark s=false↔Rn.core s=[]:=by
 unfold dark;rcases Rn.row_split s with⟨h1,h2,_⟩|⟨m,h1,_,h3⟩;·refine⟨fun _=>h1,fun _=> ?_⟩;rw[h2];simp
 ·refine⟨fun h=> ?_,fun h=> ?_⟩;(·exfalso;have hm:true∈s:=(by rw[h3,h1];simp);rw[<-UD,YW]at h;exact h ⟨true,hm,rfl⟩);·rw[h1]at h;cases h
theorem readD_rev (row:List Bool):readD row.reverse=try_ (Rn.widths row).reverse (Ea.trl row) (Ea.ldg row):=by obtain⟨_,h1,h2,h3⟩:=Rn.turned row;unfold readD;rw[h1,h2];unfold Rn.widths;rw[h3,List.map_reverse]
theorem bestGo_max (all:List Lin):∀(l:List Lin) (p:Lin×Nat),(bestGo all p l).2=l.foldl (fun n x=>max n (all.count x)) p.2
 | [],p=>rfl
 |x::l,p=>by rw[bestGo,bestGo_max all l,F1];congr 1;exact DY
theorem foldmax (f:Lin->Nat):∀(l:List Lin) (n m:Nat),l.foldl (fun n x=>max n (f x)) n<=m↔n<=m∧∀x∈l,f x<=m
 | [],n,m=>by simp
 |x::l,n,m=>by rw[F1,foldmax f l];constructor;(·rintro⟨h1,h2⟩;refine⟨by omega,fun y hy=> ?_⟩;rcases V3.1 hy with rfl|hy;(·omega);·exact h2 y hy);·rintro⟨h1,h2⟩;have:=h2 x (N2 ..);exact⟨by omega,fun y hy=>h2 y (V2 _ hy)⟩
theorem good_rev (rows:List (List Bool)):good rows.reverse=(good rows).reverse:=by unfold good;rw[List.filterMap_reverse]
theorem most_rev (l:List Lin):(bestGo l.reverse (zero,0) l.reverse).2=(bestGo l (zero,0) l).2:=by
 rw[bestGo_max,bestGo_max];have e:(fun n x=>max n (l.reverse.count x))=(fun(n:Nat) x=>max n (l.count x)):=by funext n x;rw[List.count_reverse]
 rw[e];refine Nat.le_antisymm ?_ ?_;·rw[foldmax];refine⟨O0 _,fun x hx=>((foldmax (fun x=>l.count x) l 0 _).1 (K0 _)).2 x (by simpa using hx)⟩
 ·rw[foldmax];refine⟨O0 _,fun x hx=>((foldmax (fun x=>l.count x) l.reverse 0 _).1 (K0 _)).2 x (by simpa using hx)⟩
theorem most_le (l:List Lin):(bestGo l (zero,0) l).2<=l.length:=by rw[bestGo_max,foldmax];exact⟨O0 _,fun x _=>PI⟩
theorem good_le (rows:List (List Bool)):(good rows).length<=rows.length:=List.length_filterMap_le _ _
theorem vote_rev (rows:List (List Bool)):(vote rows.reverse).2=(vote rows).2:=by
 unfold vote;rw[D4,good_rev,most_rev];split;·rfl
 ·split<;>rfl
theorem vote_le (rows:List (List Bool)):(vote rows).2.1<=(rows.length:Int):=by
 unfold vote;have h1:=most_le (good rows);have h2:=good_le rows;split;·dsimp only;omega
 ·split<;>(dsimp only;omega)
end Ln
end
section
open Go.RowKit Go.Maps Go
section
variable {P:Program} {w:World} {k e:TypeId} {T:TypeId} {α:Type} {key:α->Value}
def LS:Value->Option (DataW Unit×List MemPlace)
 | .int .i64 n=>some (.lit (.int .i64 n),[])
 |_=>none
theorem bZ {v:Value} {z:DataW Unit×List MemPlace} (h:LS v=some z):∃n,v=.int .i64 n∧z=(.lit (.int .i64 n),[]):=by
 unfold LS at h;split at h;·exact⟨_,rfl,(MJ h).symm⟩
 ·cases h
def MapV (P:Program) (k:TypeId) {α:Type} (key:α->Value) (w:World) (b n:Nat) (f:α->Option Int):Prop:=
 ∃(D:DataW Unit),w.ownsMap P k LS b n D∧∀v l,keyOf P k (key v)=some l->Maps.has D l=(f v).isSome∧D.atKey l (.lit (.int .i64 0))=.lit (.int .i64 ((f v).getD 0))
theorem MapV.made (w:World):MapV P k key (w.alloc (.map #[] 0)) w.heap.size 0 (fun _=>none):=
 ⟨.map [],(World.ownsMap_made w P k LS).mono (K0 _),fun _ _ _=>⟨rfl,rfl⟩⟩
theorem MapV.get {b n:Nat} {f:α->Option Int} (h:MapV P k key w b n f) (K:Keyed P k) (ht:P.underlying T=some (.map k e)) (hz:(zeroValue e).run P w=.ok (.int .i64 0) w) {v:α} {l:Lit} (hv:keyOf P k (key v)=some l):
 (Instr.lookup T (.map (some b)) (key v) true).run P w=.ok (.tuple #[.int .i64 ((f v).getD 0),.bool (f v).isSome]) w:=by
 obtain⟨D,ho,hat⟩:=h
 obtain⟨h1,h2⟩:=hat v l hv
 obtain⟨x,ps,hrun,hR⟩:=ho.look_ok (t:=T) K ht hz (zd:=.lit (.int .i64 0)) (zp:=[]) rfl hv
 obtain⟨m,rfl,hm⟩:=bZ hR
 have hm1:=R0 Prod.fst hm
 dsimp only at hm1
 rw[h2]at hm1
 injection hm1 with hm1
 injection hm1 with _ hm1
 rw[h1,<-hm1]at hrun
 exact hrun
theorem MapV.get1 {b n:Nat} {f:α->Option Int} (h:MapV P k key w b n f) (K:Keyed P k) (ht:P.underlying T=some (.map k e)) (hz:(zeroValue e).run P w=.ok (.int .i64 0) w) {v:α} {l:Lit} (hv:keyOf P k (key v)=some l):
 (Instr.lookup T (.map (some b)) (key v) false).run P w=.ok (.int .i64 ((f v).getD 0)) w:=by
 obtain⟨D,ho,hat⟩:=h
 obtain⟨h1,h2⟩:=hat v l hv
 obtain⟨es,clock,hb,F,_,rfl⟩:=ho
 rcases Maps.fit_look false K ht hz hb F hv with⟨hrun,_,h3⟩|⟨e0,y,_,_,hrun,hRv,h3,_⟩
 ·rw[h3]at h2;injection h2 with h2;injection h2 with _ h2;rw[<-h2];exact hrun
 ·rw[h3]at h2;obtain⟨c,hc,rfl⟩:=bZ hRv;injection h2 with h2;injection h2 with _ h2;rw[<-h2,<-hc];exact hrun
theorem MapV.put [DecidableEq α] {b n:Nat} {f:α->Option Int} (h:MapV P k key w b n f) (K:Keyed P k) (ht:P.underlying T=some (.map k e)) {v:α} {l:Lit} (hv:keyOf P k (key v)=some l) (m:Int) (hn:n<maxLen) (hinj:∀a b:α,key a=key b->a=b):
 ∃w',(Instr.mapUpdate T (.map (some b)) (key v) (.int .i64 m)).run P w=.ok () w'∧MapV P k key w' b (n+1) (fun x=>if x=v then some m else f x)∧w.grownBy w' (some b):=by
 obtain⟨D,ho,hat⟩:=h
 obtain⟨w',hrun,ho',ht'⟩:=ho.store (t:=T) K ht hn hv (val:=.int .i64 m) (d:=.lit (.int .i64 m)) (ps:=[]) rfl
 refine⟨w',hrun,⟨_,ho',fun v' l' hv'=> ?_⟩,ht'.grown⟩
 by_cases h:v'=v
 ·subst h;have hl:l'=l:=MJ (hv'.symm.trans hv);subst hl;rw[atKey_put_same ho.isMap (K.key hv),has_put_same ho.isMap (K.key hv)];dsimp only;rw[D0 rfl];exact V6
 ·have hne:l'≠l:=fun e=>h (hinj _ _ (K.inj hv' (e▸hv)));rw[atKey_put_other hne,has_put_other hne];dsimp only;rw[C0 h];exact hat v' l' hv'
theorem MapV.kept {w':World} {b n:Nat} {f:α->Option Int} (h:MapV P k key w b n f) {row:Option Nat} (hg:w.grownBy w' row) (hne:row≠some b):MapV P k key w' b n f:=by obtain⟨D,ho,hat⟩:=h;exact⟨D,ho.kept hg (fun e=>hne e.symm),hat⟩
theorem MapV.lt {b n:Nat} {f:α->Option Int} (h:MapV P k key w b n f):b<w.heap.size:=by obtain⟨D,ho,_⟩:=h;exact ho.lt
end
end
section
open Go.RowKit
theorem P9 (ws:List Int) (h:(Tw.wide ws).2=0):(Tw.wide ws).1.length=ws.length:=by
 unfold Tw.wide at h⊢
 repeat' split
 all_goals first|(simp;done)|(simp_all;done)
theorem CE (k:Nat) (e:List UInt8) (check:Bool) (hc:Tw.countsK k e.length check=true) (h:(Tw.readK k e).2=0):RF k<=(Tw.readK k e).1.length∧(Tw.readK k e).1.length<=100000:=by
 have hb:check.toNat<=1:=Bool.toNat_le check
 match k with
 |0=>have hc':Tw.counts 9 1 1000 e.length check=true:=hc;unfold Tw.counts at hc';simp only[M2,Y1]at hc';have h':(Tw.read Tw.c39 Tw.p39 [42] Cd.syms 9 e).2=0:=h;show 3<=(Tw.read Tw.c39 Tw.p39 [42] Cd.syms 9 e).1.length∧(Tw.read Tw.c39 Tw.p39 [42] Cd.syms 9 e).1.length<=100000;exact cC
 |1=>have hc':Tw.counts 7 0 998 e.length check=true:=hc;unfold Tw.counts at hc';simp only[M2,Y1]at hc';have h':(Tw.read Tw.cCb Tw.pCb Tw.eCb Tw.dCb 7 e).2=0:=h;show 2<=(Tw.read Tw.cCb Tw.pCb Tw.eCb Tw.dCb 7 e).1.length∧(Tw.read Tw.cCb Tw.pCb Tw.eCb Tw.dCb 7 e).1.length<=100000;exact cC
 |k+2=>have hc':Tw.countsItf e.length=true:=hc;unfold Tw.countsItf at hc';simp only[M2,Y1]at hc';have h':(Tw.readItf e).2=0:=h;have h3:RF (k+2)<=1:=(by unfold RF;omega);show RF (k+2)<=(Tw.readItf e).1.length∧(Tw.readItf e).1.length<=100000;unfold Tw.readItf at h'⊢;split;(·rename_i h1;rw[D0 h1]at h';simp at h');·rename_i h1;rw[C0 h1]at h';split;(·rename_i h2;rw[D0 h2]at h';simp at h');·rename_i h2;rw[C0 h2]at h';split;(·rename_i h4;rw[D0 h4]at h';simp at h');·rw[FU,O6];omega
theorem CF (k:Nat) (l:List UInt8) (check:Bool):(Tw.textK k l check).length<=l.length:=by
 unfold Tw.textK;split;·simp only[Tw.text39,M1,X2];omega
 ·unfold Tw.textCb;split;(·simp only[T0,M1,X2];omega);·omega
 ·unfold Tw.textItf;split;(·simp only[M1];omega);·omega
theorem Zit (k n:Nat) (check:Bool) (hc:Tw.countsK k n check=true):1<=n:=by
 match k with
 |0=>have hc':Tw.counts 9 1 1000 n check=true:=hc;unfold Tw.counts at hc';exact CG
 |1=>have hc':Tw.counts 7 0 998 n check=true:=hc;unfold Tw.counts at hc';exact CG
 |k+2=>have hc':Tw.countsItf n=true:=hc;unfold Tw.countsItf at hc';exact CG
theorem Zj0 (l:List Bool):(List.range l.length).map (fun k=>encB (if l.getD k false then 119 else 110))=(Tw.elems l).map encB:=by
 apply YP;·simp[Tw.elems]
 ·intro i h1 h2;simp[Tw.elems]at h1 h2⊢;simp[h1]
def DecR (r:List UInt8×Int) (w:World) (e:Ending) (w':World):Prop:=e=.returned (.tuple #[strV r.1,.int .i64 r.2])∧Ext w w'
theorem CH (k:Nat) (kind:Int) (v:Value) (ws:List Int) (check:Bool) (w:World) (hv:Sl w v (ws.map encI)) (hl:ws.length<=1000000) (hf:∀w,Calls prog 62 #[.int .i64 kind] w (MA k w)):
 Calls prog 21 #[.int .i64 kind,v,.bool check] w (DecR (Tw.decK k ws check) w):=by
 have HF:=A0 hf
 have HT:=A0 (Tw.decK.eq_1 k ws check)
 generalize Tw.decK k ws check=res at*
 clear hf
 obtain⟨a,c,rfl⟩:=hv.form
 have HW:=A0 (fun w' hx=>uC _ ws w' (Sl.ext hv hx) hl)
 rw[J0]at HW⊢
 clear hv
 cases hct:Tw.countsK k ws.length check
 ·rw[hct,D0 rfl]at HT;go_enter func21,ntmps21;go_wp2_with fail;refine(HF.out _).mono ?_;rintro e w1 ⟨B,F,rfl,hF,hx1⟩;have hen1:∀xs w,(callFunc F.cf xs).run prog w=.ok (.enter F.cf xs) w:=hF.ent.2.1;have HC:=A0 (fun w' hx=>hF.counts w' hx ws.length check B0);rw[hct]at HC;clear hF hct;unfold ZN.val;go_wp2_with fail;refine(HC.out _ (Z5.of_ext _ Xe)).mono ?_;rintro e w2 ⟨rfl,rfl⟩;go_wp2;go_ret2;exact⟨by rw[HT.out];rfl,Xe⟩
 ·rw[hct,C0 Bool.noConfusion]at HT;have HCT:=A0 hct;have hpos:=Zit k ws.length check hct;go_enter func21,ntmps21;go_wp2_with fail;refine(HF.out _).mono ?_;rintro e w1 ⟨B,F,rfl,hF,hx1⟩;have hen1:∀xs w,(callFunc F.cf xs).run prog w=.ok (.enter F.cf xs) w:=hF.ent.2.1;have hen2:∀xs w,(callFunc F.mf xs).run prog w=.ok (.enter F.mf xs) w:=hF.ent.2.2.1;have hen3:∀xs w,(callFunc F.rf xs).run prog w=.ok (.enter F.rf xs) w:=hF.ent.2.2.2.2.1;have hen4:∀xs w,(callFunc F.tf xs).run prog w=.ok (.enter F.tf xs) w:=hF.ent.2.2.2.2.2;have HC:=A0 (fun w' hx=>hF.counts w' hx ws.length check B0);have HRD:=A0 (fun w' hx s hs=>hF.read w' hx s check hs);have HTX:=A0 (fun w' hx s h1 h2=>hF.text w' hx s check h1 h2);have HCM:=A0 (fun w' hx s h1=>hF.comp w' hx s true h1);rw[hct]at HC;clear hF hct HF;unfold ZN.val;go_wp2_with fail;refine(HC.out _ (Z5.of_ext _ Xe)).mono ?_;rintro e w2 ⟨rfl,rfl⟩;clear HC;go_wp2_with fail;refine(HW.out _ (hx1.alloc _)).mono ?_;rintro e w2 ⟨vw,rfl,hsl,hx2⟩;clear HW;have hz1:w1.heap.size<w2.heap.size:=(by have:=hx2.size;exact D7);have hx12:Ext w1 w2:=((Ext.refl w1).alloc _).trans hx2;have FY:Hid (∀w',Ext w2 w'->w'.cell? ⟨w1.heap.size,4,none⟩=some (.func (.func F.mf) #[] #[])∧w'.cell? ⟨w1.heap.size,6,none⟩=some (.func (.func F.rf) F.rr F.rc)∧w'.cell? ⟨w1.heap.size,7,none⟩=some (.func (.func F.tf) #[] #[])):=A0 (fun w' hx=>by refine⟨?_,?_,?_⟩;(·rw[(hx2.trans hx).cell (p:=⟨w1.heap.size,4,none⟩) L0];simp[go_sem]);(·rw[(hx2.trans hx).cell (p:=⟨w1.heap.size,6,none⟩) L0];simp[go_sem]);·rw[(hx2.trans hx).cell (p:=⟨w1.heap.size,7,none⟩) L0];simp[go_sem]);replace hx1:=hx1.trans hx12;clear hx2;by_cases he:(Tw.wide ws).2≠0;(·rw[D0 he]at HT;have d1:((Tw.wide ws).2 !=0)=true:=C3.2 he;generalize(Tw.wide ws).2=we at*;clear he hsl;go_wp2;go_ret2;exact⟨by rw[HT.out];rfl,hx1⟩);·rw[C0 he]at HT;have he0:(Tw.wide ws).2=0:=H6 he;have hlb:=P9 ws he0;simp only[he0];clear he he0;generalize(Tw.wide ws).1=lb at*;have HLB:=A0 hlb;have hlb1:lb.length<=1000000:=B0;have hlb2:1<=lb.length:=B0;rcases hsl with⟨h1,_⟩|⟨b2,o2,c2,rfl,hb2,hcell⟩;(·have:lb=[]:=YM;rw[this]at hlb2;simp at hlb2);rw[J0]at hcell⊢;have HCB:Hid (∀w',Ext w2 w'->∀j,j<lb.length->w'.cell? ⟨b2,o2+j,none⟩=some (.bool (lb.getD j false))):=A0 (fun w' hx j hj=>by rw[hx.cell (p:=⟨b2,o2+j,none⟩) hb2,hcell j hj,J2,U0,M0 hj];rfl);have hmk:=G9 (P:=prog) 90 5 (.int .u8 0) 1 underlying90 G0 rfl .i64 .i64 lb.length B0 B0;have hbn:b2≠w2.heap.size:=B0;clear hcell hlb;go_wp2;clear hmk;go_loopw [45] (fun i wr=>∃j:Nat,j<=lb.length∧i=.int .i64 (j:Int)∧wr.rowIs w2.heap.size 5 lb.length (fun k=>if k<j then encB (if lb.getD k false then 119 else 110)else .int .u8 0)∧Ext w2 wr) (fun i _=>lb.length-(intOf i).toNat);(case atStart=>exact⟨0,O0 _,rfl,(UI w2 _ _ _).congr (fun i _=>by simp),Xe⟩);case round=>obtain⟨j,hj,rfl,hrow,hxr⟩:=hrel;by_cases hlt:j<lb.length;(·have hcj:=hrow.cell hlt;have hfj:=hrow.frozen j;have hbj:=HCB.out wr hxr j hlt;have hst:∀(f:World->World) (u:Value),True:=fun _ _=>trivial;cases hbb:lb.getD j false;(·rw[hbb]at hbj;have HR1:=A0 ((hrow.set j (.int .u8 110)).congr (g:=fun k=>if k<j+1 then encB (if lb.getD k false then 119 else 110)else .int .u8 0) (fun k hk=>by by_cases h1:k=j;(·exact EC);·rw[C0 h1];by_cases h2:k<j;(·exact MD);·rw[C0 h2,C0 (show¬k<j+1 by omega)]));have HX1:=A0 (hxr.setCell (p:=⟨w2.heap.size,j,none⟩) (K0 _) (.int .u8 110));clear hrow hbb hst;exact cE);·rw[hbb]at hbj;have HR1:=A0 (((hrow.set j (.int .u8 110)).set j (.int .u8 119)).congr (g:=fun k=>if k<j+1 then encB (if lb.getD k false then 119 else 110)else .int .u8 0) (fun k hk=>by by_cases h1:k=j;(·exact EC);·rw[C0 h1,C0 h1];by_cases h2:k<j;(·exact MD);·rw[C0 h2,C0 (show¬k<j+1 by omega)]));have HX1:=A0 ((hxr.setCell (p:=⟨w2.heap.size,j,none⟩) (K0 _) (.int .u8 110)).setCell (p:=⟨w2.heap.size,j,none⟩) (K0 _) (.int .u8 119));clear hrow hbb hst;exact cE);·obtain rfl:j=lb.length:=B0;have hsl:Sl wr (.slice (some ⟨w2.heap.size,0,none⟩) lb.length lb.length) ((Tw.elems lb).map encB):=(Sl.row hrow).congr (by rw[<-Zj0];exact PK (fun k hk=>by rw[D0 (by simpa using hk)]));have hcv:=Zr hsl;have hell:(Tw.elems lb).length=ws.length:=(by rw[Tw.elems,J0];exact HLB.out);clear hj hlt hrow hsl HCB hbn hb2;obtain⟨hy4,hy6,hy7⟩:=FY.out wr hxr;obtain⟨E,hE⟩:∃E:ByteArray,Tw.elems lb=E.data.toList:=⟨⟨(Tw.elems lb).toArray⟩,by simp⟩;rw[hE]at HT hcv hell;rw[Z4]at hcv;rw[Zd]at hell;rw[<-hell]at HCT;have HRD1:=A0 (fun w' hx=>HRD.out w' hx E HCT.out);have HRL:=A0 (CE k E.data.toList check (by rw[Zd];exact HCT.out));clear hE hell HRD;by_cases he:(Tw.readK k E.data.toList).2≠0;(·rw[D0 he]at HT;have d1:((Tw.readK k E.data.toList).2 !=0)=true:=C3.2 he;clear HRL he;generalize Tw.readK k E.data.toList=rd at*;obtain⟨r1,r2⟩:=rd;simp only at d1 HT HRD1;go_wp2_with fail;refine(HRD1.out _ (Z5.of_ext _ (hx12.trans hxr))).mono ?_;rintro e w4 ⟨rfl,hx4⟩;go_wp2;go_ret2;exact⟨by rw[HT.out];rfl,(hx1.trans hxr).trans hx4⟩);·rw[C0 he]at HT;have he0:(Tw.readK k E.data.toList).2=0:=H6 he;obtain⟨hr1,hr2⟩:=HRL.out he0;rw[he0]at HRD1;clear he he0 HRL;generalize(Tw.readK k E.data.toList).1=ch at*;obtain⟨C,rfl⟩:∃C:ByteArray,ch=C.data.toList:=⟨⟨ch.toArray⟩,by simp⟩;simp only[strV,Z4]at HRD1;rw[Zd]at hr1 hr2;have HTX1:=A0 (fun w' hx=>HTX.out w' hx C B0 hr1);have htl:=CF k C.data.toList check;clear HTX;generalize Tw.textK k C.data.toList check=tx at*;obtain⟨T,rfl⟩:∃C:ByteArray,tx=C.data.toList:=⟨⟨tx.toArray⟩,by simp⟩;simp only[strV,Z4]at HTX1;simp only[Zd]at htl;cases check;(·rw[C0 (fun h=>Bool.noConfusion h.1)]at HT;clear HCM;go_wp2_with fail;refine(HRD1.out _ (Z5.of_ext _ (hx12.trans hxr))).mono ?_;rintro e w4 ⟨rfl,hx4⟩;obtain⟨hq4,hq6,hq7⟩:=FY.out w4 (hxr.trans hx4);go_wp2_with fail;refine(HTX1.out _ (Z5.of_ext _ ((hx12.trans hxr).trans hx4))).mono ?_;rintro e w5 ⟨rfl,hx5⟩;go_wp2;go_ret2;exact⟨by rw[HT.out];exact ZX rfl rfl,((hx1.trans hxr).trans hx4).trans hx5⟩);·have HCM1:=A0 (fun w' hx=>HCM.out w' hx T B0);clear HCM;by_cases hcc:Tw.compK k T.data.toList true=(C.data.toList,0);(·rw[C0 (fun h=>h.2 hcc)]at HT;rw[hcc]at HCM1;simp only[strV,Z4]at HCM1;clear hcc;go_wp2_with fail;refine(HRD1.out _ (Z5.of_ext _ (hx12.trans hxr))).mono ?_;rintro e w4 ⟨rfl,hx4⟩;obtain⟨hq4,hq6,hq7⟩:=FY.out w4 (hxr.trans hx4);go_wp2_with fail;refine(HTX1.out _ (Z5.of_ext _ ((hx12.trans hxr).trans hx4))).mono ?_;rintro e w5 ⟨rfl,hx5⟩;obtain⟨hp4,hp6,hp7⟩:=FY.out w5 ((hxr.trans hx4).trans hx5);go_wp2_with fail;refine(HCM1.out _ (Z5.of_ext _ (((hx12.trans hxr).trans hx4).trans hx5))).mono ?_;rintro e w6 ⟨rfl,hx6⟩;go_wp2;go_ret2;exact⟨by rw[HT.out];exact ZX rfl rfl,(((hx1.trans hxr).trans hx4).trans hx5).trans hx6⟩);·rw[D0 ⟨rfl,hcc⟩]at HT;generalize Tw.compK k T.data.toList true=cp at*;obtain⟨x1,x2⟩:=cp;obtain⟨X,rfl⟩:∃C:ByteArray,x1=C.data.toList:=⟨⟨x1.toArray⟩,by simp⟩;simp only[strV,Z4]at HCM1;by_cases hx20:x2=0;(·subst hx20;have hne:(X.toList==C.toList)=false:=(by rw[C2,C2,N0];intro h;exact hcc (by rw[h]));clear hcc;exact cF);·have hne:(x2 !=0)=true:=C3.2 hx20;clear hcc hx20;exact cF
end
end Go.Proofs.YtbngggoccndefaaGreatDoor
