/-
  Laid together.
-/
import Derived.Test.YtbngggoccndefaaGreatDoorDd12
set_option maxHeartbeats 16000000
set_option maxRecDepth 100000
set_option linter.unusedVariables false
set_option linter.unusedSimpArgs false
set_option linter.ambiguousOpen false
namespace Go.Proofs.YtbngggoccndefaaGreatDoor
open Go.Proofs.Tryz
section
namespace Ea
def mb (b:Bool):UInt8:=if b then 49 else 48
def mS (l:List Bool):List UInt8:=l.map mb
theorem mb_inj {a b:Bool} (h:mb a=mb b):a=b:=by cases a<;>cases b<;>first|rfl|(revert h;decide)
theorem mS_inj {a b:List Bool}:mS a=mS b↔a=b:=by
 refine⟨fun h=> ?_,fun h=>by rw[h]⟩
 induction a generalizing b with
 |nil=>cases b with
  |nil=>rfl
  |cons y b=>simp[mS]at h
 |cons x a ih=>cases b with
  |nil=>simp[mS]at h
  |cons y b=>simp only[mS,ZnU,Zp0]at h;rw[mb_inj h.1,ih h.2]
theorem mS_app (a b:List Bool):mS (a++b)=mS a++mS b:=by simp[mS]
theorem mS_len (a:List Bool):(mS a).length=a.length:=by simp[mS]
theorem mS_take (a:List Bool) (n:Nat):(mS a).take n=mS (a.take n):=by simp[mS,Zn5]
theorem mS_drop (a:List Bool) (n:Nat):(mS a).drop n=mS (a.drop n):=by simp[mS,Zn6]
theorem mS_prefix (s p:List Bool):Lib.hasPrefix (mS s) (mS p)=decide (s.take p.length=p):=by rw[<-Lib.hasPrefix_of_take,mS_len,mS_len,mS_take,Zn7];simp only[Zno,Zna,Znj,mS_inj];refine⟨fun h=>h.2,fun h=>⟨?_,h⟩⟩;have:=Znb List.length h;exact Qf1
theorem mS_suffix (s p:List Bool) (hp:p.length<=s.length):Lib.hasSuffix (mS s) (mS p)=decide (s.drop (s.length-p.length)=p):=by rw[<-Lib.hasSuffix_of_drop,mS_len,mS_len,mS_drop,Zn7];simp only[Zno,Zna,Znj,mS_inj];exact⟨fun h=>h.2,fun h=>⟨hp,h⟩⟩
def cS (t:Nat):UInt8:=UInt8.ofNat (65+t)
def sS (u:List Nat):List UInt8:=u.map cS
theorem cS_inj:∀a b:Fin 3,cS a=cS b->a=b:=by decide
theorem cS_inj' {a b:Nat} (ha:a<3) (hb:b<3) (h:cS a=cS b):a=b:=by have:=cS_inj ⟨a,ha⟩ ⟨b,hb⟩ h;exact QfH
theorem sS_inj {a b:List Nat} (ha:∀u∈a,u<3) (hb:∀u∈b,u<3) (h:sS a=sS b):a=b:=by
 induction a generalizing b with
 |nil=>cases b with
  |nil=>rfl
  |cons y b=>simp[sS]at h
 |cons x a ih=>cases b with
  |nil=>simp[sS]at h
  |cons y b=>simp only[sS,ZnU,Zp0]at h;rw[cS_inj' (ha x (Znh ..)) (hb y (Znh ..)) h.1,ih (fun u hu=>ha u (Zne _ hu)) (fun u hu=>hb u (Zne _ hu)) h.2]
theorem sS_app (a b:List Nat):sS (a++b)=sS a++sS b:=by simp[sS]
theorem sS_len (a:List Nat):(sS a).length=a.length:=by simp[sS]
def bS (l:List UInt8):ByteArray:=⟨l.toArray⟩
theorem bS_inj {a b:List UInt8}:bS a=bS b↔a=b:=⟨fun h=>by simpa[bS]using h,fun h=>by rw[h]⟩
theorem bS_list (a:List UInt8):(bS a).data.toList=a:=rfl
theorem bS_of (s:ByteArray):bS s.data.toList=s:=Lib.mk_data s
theorem idxFromS_map {α:Type} [DecidableEq α] (f:α->ByteArray) (y:α):∀(l:List α) (i:Nat),(∀z∈l,f z=f y->z=y)->
 Lib.idxFromS (l.map f) (f y) i=(match idx l y with|some n=>((i+n:Nat):Int)|none=> -1):=by
 intro l
 induction l with
 |nil=>intro i _;rfl
 |cons z l ih=>
  intro i h;rw[ZnU,Lib.idxFromS,idx];by_cases e:z=y;(·subst e;rw[ZmH rfl,ZmH rfl];rfl)
  ·rw[ZmF (fun e2=>e (h z (Znh ..) e2)),ZmF e,ih (i+1) (fun z hz=>h z (Zne _ hz))]
   cases idx l y with
   |none=>rfl
   |some n=>simp only[ZoV];congr 1;omega
def plcO (o:Option Nat):Int:=match o with
 |some n=>(n:Int)
 |none=> -1
theorem idxOfS_map {α:Type} [DecidableEq α] (f:α->ByteArray) (l:List α) (y:α) (h:∀z∈l,f z=f y->z=y):Lib.idxOfS (l.map f) (f y)=plcO (idx l y):=by
 unfold Lib.idxOfS plcO
 rw[idxFromS_map f y l 0 h]
 cases idx l y with
 |none=>rfl
 |some n=>simp
def rowB (t:Nat):List ByteArray:=(tab.getD t []).map (fun m=>bS (mS m))
theorem row_idx (t:Nat) (m:List Bool):Lib.idxOfS (rowB t) (bS (mS m))=plcO (lookT t m):=by unfold rowB lookT;exact idxOfS_map (fun m=>bS (mS m)) _ m (fun z _ h=>mS_inj.1 (bS_inj.1 h))
def leftB:List ByteArray:=setsL.map (fun u=>bS (sS u))
theorem left_small:∀u∈setsL,∀x∈u,x<3:=by decide
theorem left_idx (u:List Nat) (h:∀x∈u,x<3):Lib.idxOfS leftB (bS (sS u))=plcO (find13 u):=
 idxOfS_map (fun u=>bS (sS u)) _ u (fun z hz e=>sS_inj (left_small z hz) h (bS_inj.1 e))
def setsE1:List (List Nat):=setsE0.map (fun l=>l.map (fun x=>1-x))
def compB (y:Nat):List ByteArray:=(if y=0 then setsE0 else setsE1).map (fun u=>bS (sS u))
theorem comp_small0:∀u∈setsE0,∀x∈u,x<3:=by decide
theorem comp_small1:∀u∈setsE1,∀x∈u,x<3:=by decide
theorem comp_idx (y:Nat) (u:List Nat) (h:∀x∈u,x<3):Lib.idxOfS (compB y) (bS (sS u))=plcO (idx (if y=0 then setsE0 else setsE1) u):=
 idxOfS_map (fun u=>bS (sS u)) _ u (fun z hz e=>sS_inj (by split at hz;(·exact comp_small0 z hz);·exact comp_small1 z hz) h (bS_inj.1 e))
theorem findE_eq (u:List Nat):findE u=match idx setsE0 u with
 |some c=>some (0,c)
 |none=>(idx setsE1 u).map (fun c=>(1,c)):=rfl
def dl (l:List UInt8) (us:List Nat):List (List Bool):=List.zipWith (fun c t=>modl t (c.toNat-48)) l us
theorem dl_len {l:List UInt8} {us:List Nat} (h:us.length=l.length):(dl l us).length=l.length:=by unfold dl;rw[List.length_zipWith,h,Nat.min_self]
theorem dl_at {l:List UInt8} {us:List Nat} {i:Nat} {c:UInt8} {t:Nat} (h1:l[i]? =some c) (h2:us[i]? =some t):(dl l us)[i]? =some (modl t (c.toNat-48)):=by unfold dl;rw[List.getElem?_zipWith,h1,h2]
theorem join_draw (sep:List Bool):∀(l:List UInt8) (us:List Nat),us.length=l.length->Lib.join ((dl l us).map mS) (mS sep)=mS (drw sep l us):=by
 intro l
 induction l with
 |nil=>intro us _;rfl
 |cons c l ih=>
  intro us h
  cases us with
  |nil=>simp at h
  |cons u us=>
   have h':us.length=l.length:=Qh1;have e:dl (c::l) (u::us)=modl u (c.toNat-48)::dl l us:=rfl;rw[drw_cons,e,ZnU,mS_app];by_cases h0:l=[];(·subst h0;have:us=[]:=Znq (by simpa using h');subst this;rw[ZmH rfl,show dl [] []=[]from rfl,ZoU,Lib.join_one];simp[mS])
   ·rw[ZmF h0,mS_app,<-ih us h',Lib.join_cons]
    congr 1
    have hp:0<(dl l us).length:=by rw[dl_len h'];exact Qfk
    cases hd:dl l us with
    |nil=>rw[hd]at hp;simp at hp
    |cons m r=>rw[ZnU,Lib.join_cons];simp[Lib.joinTail]
end Ea
end
end Go.Proofs.YtbngggoccndefaaGreatDoor
namespace Go.Proofs.YtbngggoccndefaaGreatDoor
open Go.Proofs.Tryz
section
open Go.RowKit
def BoolsR (m:List Bool) (w:World) (e:Ending) (w':World):Prop:=∃v,e=.returned v∧SlK w' v (m.map encT)∧Ext w w'
theorem ZaA (s:ByteArray) (m:List Bool) (hs:s.data.toList=Ea.mS m) (hm:m.length<=1000000) (w:World):
 Calls prog 113 #[.string s] w (BoolsR m w):=by
 have hsz:s.size=m.length:=QdB
 have HS:=ZmE hs
 have HZ:=ZmE hsz
 have hss:s.size<=1000000:=by omega
 have hmk:=Zpa (P:=prog) 26 4 (.bool false) 1 underlying26 QhO rfl .i64 .i64 s.size QhN QhN
 clear hs hsz
 go_enter func113,ntmps113
 go_wp2
 clear hmk
 go_loopw [10] (fun i wr=>∃j:Nat,j<=s.size∧i=.int .i64 (j:Int)∧wr.rowIs w.heap.size 4 s.size (fun k=>if k<j then encT (m.getD k false)else .bool false)∧Ext w wr) (fun i _=>s.size-(intOf i).toNat)
 case atStart=>exact Qcr
 case round=>
  obtain⟨j,hj,rfl,hrow,hxr⟩:=hrel;by_cases hlt:j<s.size
  ·have hcell:=hrow.cell hlt;have hfz:=hrow.frozen j;obtain⟨b,hb⟩:∃b,m[j]? =some b:=⟨_,ZmG (by rw[<-HZ.out];exact hlt)⟩;have hsj:s[j]=Ea.mb b:=(by have h1:s.data.toList[j]? =some s[j]:=ZmG Qij;exact QeX);have HB:Hid (m.getD j false=b):=ZmE (by rw[ZmL,hb];rfl);have hbit:((s[j].toNat:Int)==49)=b:=(by rw[hsj];cases b<;>rfl);have HR5:Hid ((wr.setCell ⟨w.heap.size,j,none⟩ (.bool b)).rowIs w.heap.size 4 s.size (fun k=>if k<j+1 then encT (m.getD k false)else .bool false)):=
    ZmE ((hrow.set j (.bool b)).congr (fun k hk=>by by_cases h1:k=j;(·subst h1;rw[ZmH rfl,ZmH QhN,HB.out];rfl);·rw[ZmF h1];by_cases h2:k<j;(·exact QcG);·rw[ZmF h2,ZmF QhN]))
   have HX:=ZmE (hxr.setCell (p:=⟨w.heap.size,j,none⟩) (ZmK _) (.bool b));clear hrow hxr hb hsj;exact QbM
  ·obtain rfl:j=s.size:=QhN;have hsl:=SlK.row hrow;clear hj hlt hrow;go_wp2;go_ret;refine⟨_,rfl,hsl.congr ?_,hxr⟩;apply ZoK;(·simp[HZ.out]);·intro i h1 h2;simp at h1 h2;simp[h1,h2]
theorem ZjN (v:Value) (m:List Bool) (w:World) (hv:SlK w v (m.map encT)) (hm:m.length<=1000000):
 Calls prog 137 #[v] w fun e w'=>e=.returned (.string (Ea.bS (Ea.mS m)))∧Ext w w':=by
 obtain⟨hsl,a,c,rfl,_⟩:=hv
 rw[ZmI]at hsl⊢
 have HV:=ZmE hsl
 have hmk:=Zpa (P:=prog) 90 5 (.int .u8 0) 1 underlying90 QhO rfl .i64 .i64 m.length QhN QhN
 clear hsl
 go_enter func137,ntmps137
 go_wp2
 clear hmk
 go_loopw [11] (fun i wr=>∃j:Nat,j<=m.length∧i=.int .i64 (j:Int)∧wr.rowIs w.heap.size 5 m.length (fun k=>if k<j then encB (Ea.mb (m.getD k false))else .int .u8 0)∧Ext w wr) (fun i _=>m.length-(intOf i).toNat)
 case atStart=>exact Qcr
 case round=>
  obtain⟨j,hj,rfl,hrow,hxr⟩:=hrel;by_cases hlt:j<m.length
  ·have hcell:=hrow.cell hlt
   have hfz:=hrow.frozen j
   obtain⟨bb,off,ha,hbl,hc0⟩:=HV.out.at_ (k:=j) Qia
   subst ha
   obtain⟨b,hb⟩:∃b,m[j]=b:=⟨_,rfl⟩
   rw[ZnO,hb]at hc0
   have hcc:=(hxr.cell (p:=⟨bb,off+j,none⟩) hbl).trans hc0
   have HB:Hid (m.getD j false=b):=ZmE (by rw[ZmL,ZmG hlt];exact hb)
   have hne:¬bb=w.heap.size:=by omega
   have HX1:=ZmE (fun u=>hxr.setCell (p:=⟨w.heap.size,j,none⟩) (ZmK _) u)
   have HX2:=ZmE (fun u v=>(hxr.setCell (p:=⟨w.heap.size,j,none⟩) (ZmK _) u).setCell (p:=⟨w.heap.size,j,none⟩) (ZmK _) v)
   have HR1:∀x,encB (Ea.mb b)=x->Hid ((wr.setCell ⟨w.heap.size,j,none⟩ x).rowIs w.heap.size 5 m.length (fun k=>if k<j+1 then encB (Ea.mb (m.getD k false))else .int .u8 0)):=fun x hx=>
    ZmE ((hrow.set j x).congr (fun k hk=>by by_cases h1:k=j;(·exact QfQ);·rw[ZmF h1];by_cases h2:k<j;(·exact QcG);·rw[ZmF h2,ZmF QhN]))
   have HR2:∀x y,encB (Ea.mb b)=y->Hid (((wr.setCell ⟨w.heap.size,j,none⟩ x).setCell ⟨w.heap.size,j,none⟩ y).rowIs w.heap.size 5 m.length (fun k=>if k<j+1 then encB (Ea.mb (m.getD k false))else .int .u8 0)):=fun x y hx=>
    ZmE (((hrow.set j x).set j y).congr (fun k hk=>by by_cases h1:k=j;(·exact QfQ);·rw[ZmF h1,ZmF h1];by_cases h2:k<j;(·exact QcG);·rw[ZmF h2,ZmF QhN]))
   cases b with
   |true=>have hR:=HR2 (.int .u8 48) (.int .u8 49) rfl;have hrow2:=hrow.set j (.int .u8 48);have hcell2:=hrow2.cell hlt;have hfz2:=hrow2.frozen j;clear hrow hxr HR1 HR2 hrow2 hb;go_wp2;go_roundw;(case rel=>exact⟨j+1,by omega,by go_num,by first|exact hR.out|simpa using hR.out,by first|exact HX2.out _ _|simpa using HX2.out _ _⟩);case measure=>exact Q8
   |false=>have hR:=HR1 (.int .u8 48) rfl;clear hrow hxr HR1 HR2 hb;go_wp2;go_roundw;(case rel=>exact⟨j+1,by omega,by go_num,hR.out,HX1.out _⟩);case measure=>exact Q8
  ·obtain rfl:j=m.length:=QhN;have hsl:=Sl.row hrow;have hcv:=Zl (l:=Ea.mS m) (hsl.congr (by apply ZoK;(·simp[Ea.mS]);·intro i h1 h2;simp at h1;simp[h1,Ea.mS]));clear hj hlt hrow hsl;go_wp2;go_ret;exact⟨rfl,hxr⟩
end
end Go.Proofs.YtbngggoccndefaaGreatDoor
namespace Go.Proofs.YtbngggoccndefaaGreatDoor
open Go.Proofs.Tryz
section
namespace Ea
theorem full_ok {k:Int} {l:List UInt8} (h:full k l=0):size k≠0∧digs l=true∧l.length=size k∧(k=4->l.getD 0 0<=49)∧l=l.take (size k-1)++[chkOf k (l.take (size k-1))]:=by
 unfold full at h;split at h;·cases h
 rename_i h1;unfold comp at h;split at h;·cases h
 rename_i h2;split at h;·cases h
 rename_i h3;have h3:digs l=true:=by simpa using h3
 split at h;·cases h
 rename_i h4;split at h;·cases h
 rename_i h5;split at h;·cases h
 rename_i h6;have hl:l.length=size k:=by by_cases e:l.length=size k;(·exact e);·exact absurd ⟨h2,h3,by by_cases e2:l.length+1=size k;exact e2;exact absurd ⟨e,e2⟩ h4⟩ h1
 refine⟨h2,h3,hl,fun e=> ?_,?_⟩;·have:¬49<l.getD 0 0:=fun e2=>h5 ⟨e,e2⟩;exact ZqB.1 this
 ·by_cases e:l=l.take (size k-1)++[chkOf k (l.take (size k-1))];(·exact e);·exact absurd ⟨hl,e⟩ h6
theorem full_of {k:Int} {l:List UInt8} (h1:size k≠0) (h2:digs l=true) (h3:l.length=size k) (h4:k=4->l.getD 0 0<=49) (h5:l=l.take (size k-1)++[chkOf k (l.take (size k-1))]):full k l=0:=by unfold full;rw[ZmF QhN];unfold comp;rw[ZmF h1,ZmF (by simp[h2]),ZmF QhN,ZmF (fun h=>by have:=h4 h.1;exact ZqB.2 this h.2),ZmF (fun h=>h.2 h5)]
theorem full_zero {k:Int} {l:List UInt8} (h1:size k≠0) (h2:digs l=true) (h3:l.length=size k) (h4:k=4->l.getD 0 0<=49):full k l=if l=l.take (size k-1)++[chkOf k (l.take (size k-1))]then 0 else 8:=by
 by_cases h5:l=l.take (size k-1)++[chkOf k (l.take (size k-1))];·rw[ZmH h5];exact full_of h1 h2 h3 h4 h5
 ·rw[ZmF h5];unfold full;rw[ZmF QhN];unfold comp;rw[ZmF h1,ZmF (by simp[h2]),ZmF QhN,ZmF (fun h=>by have:=h4 h.1;exact ZqB.2 this h.2),ZmH ⟨h3,h5⟩]
theorem sets13_ok:∀d:Fin 10,(sets13 d).length=6∧(∀u∈sets13 d,u<2)∧find13 (sets13 d)=some d.1:=by decide
theorem setsE_ok:∀(s:Fin 2) (c:Fin 10),(setsE s c).length=6∧(∀u∈setsE s c,u<2)∧findE (setsE s c)=some (s.1,c.1):=by decide
theorem setsA2_ok:∀d:Fin 4,(setsA2.getD d []).length=2∧∀u∈setsA2.getD d [],u<2:=by decide
theorem setsA5_ok:∀d:Fin 10,(setsA5.getD d []).length=5∧∀u∈setsA5.getD d [],u<2:=by decide
theorem setsAdd_ok {a:List UInt8} (h:a.length=2∨a.length=5):(setsAdd a).length=a.length∧∀u∈setsAdd a,u<2:=by
 unfold setsAdd;rcases h with h|h;·rw[ZmH h,h];exact setsA2_ok ⟨_,Zqk _ QhN⟩
 ·rw[ZmF QhN,h];exact setsA5_ok ⟨_,Zqk _ QhN⟩
theorem find13_some {u:List Nat} {d:Nat} (h:find13 u=some d):d<10∧u=sets13 d:=by have h1:=idx_some h;obtain⟨h2,h3⟩:=ZmN.1 h1;exact⟨h2,by unfold sets13;rw[ZmL,h1];rfl⟩
theorem findE_some {u:List Nat} {s c:Nat} (h:findE u=some (s,c)):s<2∧c<10∧u=setsE s c:=by
 unfold findE at h
 cases h0:idx setsE0 u with
 |some c0=>rw[h0]at h;cases h;have h1:=idx_some h0;obtain⟨h2,h3⟩:=ZmN.1 h1;exact⟨by omega,h2,by unfold setsE;rw[ZmH rfl,ZmL,h1];rfl⟩
 |none=>
  rw[h0]at h
  cases h4:idx (setsE0.map (fun l=>l.map (fun x=>1-x))) u with
  |none=>rw[h4]at h;cases h
  |some c0=>rw[h4]at h;cases h;have h1:=idx_some h4;obtain⟨h2,h3⟩:=ZmN.1 h1;rw[ZmI]at h2;refine⟨by omega,h2,?_⟩;unfold setsE;rw[ZmF QhN,<-h3,ZnO,ZmL,ZmG h2];rfl
theorem dv_lt {l:List UInt8} (h:digs l=true) (i:Nat):dv l i<10:=by
 unfold dv
 rw[ZmL]
 cases e:l[i]? with
 |none=>simp
 |some c=>have:=digs_iff.1 h c (ZmT e);simp;omega
theorem drw6_len {l:List UInt8} {us:List Nat} (h1:digs l=true) (h2:l.length=6) (h3:us.length=6) (h4:∀u∈us,u<3):(drw [] l us).length=42:=by rw[drw_len [] l us h1 QhN h4,h2];rfl
theorem drw4_len {l:List UInt8} {us:List Nat} (h1:digs l=true) (h2:l.length=4) (h3:us.length=4) (h4:∀u∈us,u<3):(drw [] l us).length=28:=by rw[drw_len [] l us h1 QhN h4,h2];rfl
theorem gd_len:gd.length=3:=rfl
theorem md_len:md.length=5:=rfl
theorem eE_len:eE.length=6:=rfl
theorem sym13_len {l:List UInt8} (h1:digs l=true) (h2:l.length=13):(sym13 l).length=95:=by unfold sym13;obtain⟨a,b,_⟩:=sets13_ok ⟨dv l 0,dv_lt h1 0⟩;simp only[ZmM,gd_len,md_len];rw[drw6_len (digs_take (digs_drop h1 1) 6) QhY a (fun u hu=>by have:=b u hu;omega),drw6_len (digs_drop h1 7) QhY rfl QhQ]
theorem sym8_len {l:List UInt8} (h1:digs l=true) (h2:l.length=8):(sym8 l).length=67:=by unfold sym8;simp only[ZmM,gd_len,md_len];rw[drw4_len (digs_take h1 4) QhY rfl QhQ,drw4_len (digs_drop h1 4) QhY rfl QhQ]
theorem symE_len {l:List UInt8} (h1:digs l=true) (h2:l.length=8) (h3:dv l 0<2):(symE l).length=51:=by unfold symE;obtain⟨a,b,_⟩:=setsE_ok ⟨dv l 0,h3⟩ ⟨dv l 7,dv_lt h1 7⟩;simp only[ZmM,gd_len,eE_len];rw[drw6_len (digs_take (digs_drop h1 1) 6) QhY a (fun u hu=>by have:=b u hu;omega)]
def wOf (k:Int):Nat:=if k=1∨k=3 then 95 else if k=2 then 67 else 51
theorem kinds {k:Int} (h:size k≠0):k=1∨k=2∨k=3∨k=4:=by unfold size at h;(repeat' split at h)<;>omega
theorem dv2 {l:List UInt8} (h1:digs l=true) (h2:0<l.length) (h:l.getD 0 0<=49):dv l 0<2:=by unfold dv;rw[ZmL,ZmG h2]at*;have:(l[0]).toNat<=49:=h;exact Qcm
theorem digs_cons {c:UInt8} {l:List UInt8} (hc:48<=c.toNat∧c.toNat<=57) (h:digs l=true):digs (c::l)=true:=digs_iff.2 fun x hx=>by
 rcases Zn8.1 hx with rfl|hx;·exact hc
 ·exact digs_iff.1 h x hx
theorem sym_len {k:Int} {l:List UInt8} (h:full k l=0):(sym k l).length=wOf k:=by
 obtain⟨h1,h2,h3,h4,_⟩:=full_ok h;rcases kinds h1 with rfl|rfl|rfl|rfl;·exact sym13_len h2 h3
 ·exact sym8_len h2 h3
 ·exact sym13_len (digs_cons QhP h2) Qjp
 ·exact symE_len h2 h3 (dv2 h2 (by rw[h3];decide) (h4 rfl))
theorem gsP_zero (l:List UInt8):(Cd.gsP (48::l)).1=(Cd.gsP l).1:=by
 have:Cd.dg 48=0:=by decide
 rw[Cd.gsP,this];simp
theorem chk_zero (l:List UInt8):chk (48::l)=chk l:=by unfold chk;rw[gsP_zero]
theorem full_13 {l:List UInt8} (h:full 3 l=0):full 1 (48::l)=0:=by
 obtain⟨h1,h2,h3,h4,h5⟩:=full_ok h;refine full_of QhP (digs_cons QhP h2) Qjp (fun e=>by cases e) ?_;have e1:size 1-1=12:=rfl;have e3:size 3-1=11:=rfl;rw[e3]at h5;rw[e1,Zpw,Zny];congr 1;conv=>lhs;rw[h5]
 congr 2;unfold chkOf;simp[chk_zero]
theorem addn_len {a:List UInt8} (h1:digs a=true) (h2:a.length=2∨a.length=5):(addn a).length=wAdd a.length:=by obtain⟨e1,e2⟩:=setsAdd_ok h2;unfold addn;rw[ZmM,drw_len gA a _ h1 e1 (fun u hu=>by have:=e2 u hu;omega)];rcases h2 with h2|h2<;>rw[h2]<;>rfl
end Ea
namespace Cd
theorem wt13 (i:Nat):wt [1,3] 10 i=if i%2=0 then 1 else 3:=by
 have h:∀j:Fin 2,((([1,3]:List Int).getD j.1 0).tmod 10+10)%10=if j.1=0 then 1 else 3:=by decide
 exact h ⟨i%2,Zqk _ QhP⟩
theorem ws_gs (s:List UInt8):wsP [1,3] 10 s=(gsF s).1%10:=by
 induction s with
 |nil=>rfl
 |cons c l ih=>simp only[wsP,gsF,ih,wt13,gsF_w];exact QhE
theorem ver_digits (k:Nat) (l:List UInt8) (d:UInt8) (_h1:1<=k) (_h8:k<=8) (h7:k≠7) (h6:k≠6) (hs:AllDig (l++[d])) (hl:(l++[d]).length<=4096):ver k (l++[d])=0↔fits k (l++[d]).length=true∧cmp k l=[d]:=by
 have hz:size k=1:=ZmF h6;have hcut:(l++[d]).length-size k=l.length:=by rw[hz,ZmM,ZoQ];omega
 obtain⟨hda,hdd⟩:=allDig_app hs;have hd0:=hdd d (Znz.2 rfl);have ddig:∀c:UInt8,48<=c.toNat∧c.toNat<=57->isDig (c.toNat:Int)=true:=fun c hc=>by simp only[isDig,Zno,Zna];omega
 rw[ver_zero_iff,hcut,List.take_left,List.drop_left];constructor;·intro h;exact⟨h.2.1,h.2.2.2.2⟩
 ·intro h;refine⟨hl,h.1,fun c hc=> ?_,fun c hc=> ?_,h.2⟩;(·rw[datB,ZmF h7];exact ddig c (hda c hc));·rw[Znz]at hc;subst hc;rw[chkB,ZmF h7];split;(·rw[ddig c hd0];rfl);·exact ddig c hd0
theorem last_of (s:List UInt8) (h:2<=s.length):∃l d,s=l++[d]∧l≠ []:=by
 have hne:s≠ []:=by rintro rfl;simp at h
 refine⟨s.dropLast,s.getLast hne,(Zp7 hne).symm,?_⟩;intro e;have:=Znb List.length e;rw[List.length_dropLast]at this;simp only[ZnE]at this;omega
theorem chr_eq (v:Int) (d:UInt8) (h0:0<=v) (h1:v<=10) (hd:48<=d.toNat∧d.toNat<=57): [chr v]=[d]↔v=dg d:=by
 constructor;·intro h;have e:chr v=d:=Qh1;rw[<-vx_chr v h0 h1,e,vx_dig hd]
 ·intro h;have:=dg_bd hd;rw[List.cons_eq_cons];refine⟨dg_inj ?_,rfl⟩;rw[dg_chr v h0 QhN,h]
theorem sums1 (s:List UInt8) (hs:AllDig s) (h2:2<=s.length) (hl:s.length<=4096):ver 1 s=0↔wsP [1,3] 10 s=0:=by
 obtain⟨l,d,rfl,hne⟩:=last_of s h2;obtain⟨hda,hdd⟩:=allDig_app hs;have hd0:=hdd d (Znz.2 rfl);have hb:=dg_bd hd0;rw[ver_digits 1 l d QhP QhP QhP QhP hs hl,ws_gs,gsF_snoc];have hf:fits 1 (l++[d]).length=true:=by show decide (1<(l++[d]).length)=true;exact ZmR QhN
 simp only[cmp,hf,true_and];rw[chr_eq _ d QhN QhN hd0];omega
end Cd
namespace Ea
theorem allDig {l:List UInt8} (h:digs l=true):Cd.AllDig l:=digs_iff.1 h
theorem split_last {l:List UInt8} (h:0<l.length):∃d,l=l.take (l.length-1)++[d]:=by
 refine⟨l[l.length-1],?_⟩;conv=>lhs;rw[<-ZnX (l.length-1) l]
 congr 1;rw[Zn3 QhN,ZnD QhN]
def good (l:List UInt8):Prop:=l=l.take (l.length-1)++[chk (l.take (l.length-1))]
instance (l:List UInt8):Decidable (good l):=inferInstanceAs (Decidable (l=_))
theorem ver_good {l:List UInt8} (h:digs l=true) (h2:2<=l.length) (h3:l.length<=4096):Cd.verI 1 l=0↔good l:=by
 obtain⟨d,hd⟩:=split_last (l:=l) QhN;have hlen:(l.take (l.length-1)).length=l.length-1:=QeF
 rw[show(1:Int)=((1:Nat):Int)from rfl,Cd.verI_nat 1 l QhN QhN];unfold good;generalize l.take (l.length-1)=r at*;subst hd;rw[Cd.ver_digits 1 r d QhN QhN QhN QhN (allDig h) h3];have hf:Cd.fits 1 (r++[d]).length=true:=by unfold Cd.fits;simp[Cd.size];simp at h2;omega
 constructor;·intro h4;have h5:Cd.cmp 1 r=[d]:=(by first|exact h4.2|exact h4.2.1|exact h4.2.2);have h6:Cd.cmp 1 r=[chk r]:=rfl;rw[<-h5,h6]
 ·intro h4;have h5: [d]=[chk r]:=ZpP h4;first|exact⟨hf,h5.symm⟩|(refine⟨hf,?_⟩;rw[h5];rfl)
theorem exp7_len {l:List UInt8} (h:l.length=7):(exp7 l).length=11:=by unfold exp7;(repeat' split)<;>simp<;>omega
theorem exp7_digs {l:List UInt8} (h:digs l=true):digs (exp7 l)=true:=by
 have hz4:digs [48,48,48,48]=true:=by decide
 have hz5:digs [48,48,48,48,48]=true:=by decide
 unfold exp7;(repeat' split)<;>simp only[digs_app];·exact⟨⟨⟨digs_take h _,digs_take (digs_drop h _) _⟩,hz4⟩,digs_take (digs_drop h _) _⟩
 ·exact QfP
 ·exact QfP
 ·exact⟨⟨digs_take h _,hz4⟩,digs_take (digs_drop h _) _⟩
theorem exp8_len {l:List UInt8} (h:l.length=8):(exp8 l).length=12:=by unfold exp8;rw[ZmM,exp7_len QhS,Znr];omega
theorem exp8_digs {l:List UInt8} (h:digs l=true):digs (exp8 l)=true:=by unfold exp8;rw[digs_app];exact⟨exp7_digs (digs_take h _),digs_drop h _⟩
theorem exp8_take {l:List UInt8} (h:l.length=8):(exp8 l).take 11=exp7 (l.take 7):=by unfold exp8;exact take_app _ _ _ (exp7_len QhS).symm
theorem good_of {k:Int} {l:List UInt8} (h1:size k≠0) (h3:l.length=size k):l=l.take (size k-1)++[chkOf k (l.take (size k-1))]↔good (if k=4 then exp8 l else l):=by
 by_cases h4:k=4;·subst h4;have e:size 4=8:=rfl;rw[e]at h3⊢;rw[ZmH rfl];unfold good chkOf;rw[ZmH rfl,exp8_len h3,exp8_take h3];obtain⟨d,hd⟩:=split_last (l:=l) QhN;rw[h3]at hd;have hdr:l.drop 7=[d]:=(by rw[hd];exact drop_app _ _ _ QhS);constructor;(·intro h;have h5: [d]=[chk (exp7 (l.take 7))]:=ZpP (hd.symm.trans h);show exp8 l=_;unfold exp8;rw[hdr,h5]);·intro h;have h5: [d]=[chk (exp7 (l.take 7))]:=(by unfold exp8 at h;rw[hdr]at h;exact ZpP h);show l=_;rw[<-h5];exact hd
 ·rw[ZmF h4];unfold good chkOf;rw[ZmF h4,h3]
theorem len8 {l:List UInt8} (h:l.length=8):∃a0 a1 a2 a3 a4 a5 a6 a7,l=[a0,a1,a2,a3,a4,a5,a6,a7]:=by
 match l,h with
 | [a0,a1,a2,a3,a4,a5,a6,a7],_=>exact⟨_,_,_,_,_,_,_,_,rfl⟩
theorem decF_inv {s:List Bool}:∀(l:List (Nat×Nat)) (e:Int),e≠0->(∀p∈l,fits s p.1 p.2=true->(rdShape s p.1 p.2).2=0->True)->(decF s e l).2=0->∃p∈l,fits s p.1 p.2=true∧(rdShape s p.1 p.2).2=0∧decF s e l=rdShape s p.1 p.2:=by
 intro l
 induction l with
 |nil=>intro e he _ h;exact absurd h he
 |cons p l ih=>intro e he hp h;obtain⟨n,a⟩:=p;rw[decF]at h⊢;by_cases h1:fits s n a=false;(·rw[ZmH h1]at h⊢;obtain⟨q,q1,q2⟩:=ih e he (fun _ _ _ _=>trivial) h;exact⟨q,Zne _ q1,q2⟩);·rw[ZmF h1]at h⊢;by_cases h2:(rdShape s n a).2=0;(·rw[ZmH h2];exact⟨(n,a),Znh ..,by simpa using h1,h2,rfl⟩);·rw[ZmF h2]at h⊢;obtain⟨q,q1,q2⟩:=ih _ (by split<;>assumption) (fun _ _ _ _=>trivial) h;exact⟨q,Zne _ q1,q2⟩
def trim (s:List Bool):List Bool:=(s.drop (ldg s)).take (s.length-trl s-ldg s)
theorem dec_ok {s:List Bool} (h:(dec s).2=0):dec s=decF (trim s) 7 shapes:=by
 unfold dec at h⊢;split;·rename_i h1;exact Qfc
 rename_i h1;rw[ZmF h1]at h;split;·exact QfB
 rename_i h2;rw[ZmF h2]at h;split;·rename_i h3;rw[ZmH h3]at h;cases h
 rfl
theorem rdAdd_ok {n:Nat} {s:List Bool} (hn:n=2∨n=5) (h:(rdAdd n s).2=0):(rdAdd n s).1.length=n:=by
 have key:∀(gap m:Nat) (s:List Bool) (l:List UInt8) (u:List Nat),rcg true 0 gap m s=some (l,u)->l.length=m:=by
  intro gap m
  induction m with
  |zero=>intro s l u h;cases h;rfl
  |succ m ih=>
   intro s l u h
   rw[rcg]at h
   cases h1:look true 0 (s.take 7)with
   |none=>rw[h1]at h;cases h
   |some p=>
    rw[h1]at h
    dsimp only at h
    cases h2:rcg true 0 gap m (s.drop (7+gap))with
    |none=>rw[h2]at h;cases h
    |some q=>rw[h2]at h;cases h;simp[ih _ _ _ h2]
 unfold rdAdd at h⊢
 split
 ·rename_i h1;exact Qfc
 rename_i h1
 rw[ZmF h1]at h
 split
 ·exact QfB
 rename_i h2
 rw[ZmF h2]at h
 cases h3:rcg true 0 2 n (s.drop 4)with
 |none=>rw[h3]at h;cases h
 |some p=>obtain⟨l,u⟩:=p;rw[h3]at h;dsimp only at h⊢;split;(·rename_i h4;rw[ZmH h4]at h;cases h);·exact key _ _ _ _ _ h3
end Ea
end
end Go.Proofs.YtbngggoccndefaaGreatDoor
namespace Go.Proofs.YtbngggoccndefaaGreatDoor
open Go.Proofs.Tryz
section
open Go.RowKit
theorem ZbU (k:Int) (w:World):Calls prog 47 #[.int .i64 k] w fun e w'=>e=.returned (.int .i64 (Ea.size k:Int))∧w=w':=by
 have h:k=1∨k=2∨k=3∨k=4∨(k≠1∧k≠2∧k≠3∧k≠4):=by omega
 rcases h with rfl|rfl|rfl|rfl|⟨h1,h2,h3,h4⟩;·exact QgJ
 ·exact QgJ
 ·exact QgJ
 ·exact QgJ
 ·have e:Ea.size k=0:=Qf0;have b1:(k==1)=false:=ZmJ.2 h1;have b2:(k==2)=false:=ZmJ.2 h2;have b3:(k==3)=false:=ZmJ.2 h3;have b4:(k==4)=false:=ZmJ.2 h4;rw[e];clear h1 h2 h3 h4 e;exact QgJ
theorem ZhO (k:Int) (w:World):Calls prog 108 #[.int .i64 k] w fun e w'=>e=.returned (.tuple #[.int .i64 (Ea.lq k:Int),.int .i64 (Ea.rq k:Int)])∧w=w':=by
 have h:k=1∨k=2∨k=3∨(k≠1∧k≠2∧k≠3):=by omega
 rcases h with rfl|rfl|rfl|⟨h1,h2,h3⟩;·exact QgB
 ·exact QgB
 ·exact QgB
 ·have e:Ea.lq k=9∧Ea.rq k=7:=(by unfold Ea.lq Ea.rq;rw[ZmF h1,ZmF h2,ZmF h3];exact Qbg);have b1:(k==1)=false:=ZmJ.2 h1;have b2:(k==2)=false:=ZmJ.2 h2;have b3:(k==3)=false:=ZmJ.2 h3;rw[e.1,e.2];clear h1 h2 h3 e;exact QgB
theorem Zac (n:Nat) (h:n=0∨n=2∨n=5) (w:World):Calls prog 211 #[.int .i64 (n:Int)] w fun e w'=>e=.returned (.int .i64 (Ea.wAdd n:Int))∧w=w':=by
 rcases h with rfl|rfl|rfl;·exact Qhi
 ·exact Qhi
 ·exact Qhi
theorem Zcf (s:ByteArray) (h:0<s.size) (w:World):Calls prog 49 #[.string s] w fun e w'=>e=.returned (.bool (s[0]==48 || s[0]==49))∧w=w':=by
 obtain⟨c,hc⟩:∃c,s[0]=c:=⟨_,rfl⟩;rw[hc];have hlt:(0:Int)<(s.size:Int):=by omega
 have e48:∀d:UInt8,(c==d)=((c.toNat:Int)==(d.toNat:Int)):=fun d=>by rw[Zn7,Znj,Znj];exact⟨fun e=>by rw[e],fun e=>ZnJ.1 QhN⟩
 rw[e48,e48];by_cases h0:c.toNat=48;·have b0:((c.toNat:Int)==48)=true:=Qjt;have b0':(c.toNat==48)=true:=Qjt;have hres:(((c.toNat:Int)==((48:UInt8).toNat:Int)) || ((c.toNat:Int)==((49:UInt8).toNat:Int)))=true:=Qjt;rw[hres];clear e48 hres h0;exact Qhn
 ·have b0:((c.toNat:Int)==48)=false:=ZmJ.2 QhN;by_cases h1:c.toNat=49;(·have b1:((c.toNat:Int)==49)=true:=Qjs;have hres:(((c.toNat:Int)==((48:UInt8).toNat:Int)) || ((c.toNat:Int)==((49:UInt8).toNat:Int)))=true:=Qjs;rw[hres];clear e48 hres h0 h1;exact Qhn);·have b1:((c.toNat:Int)==49)=false:=ZmJ.2 QhN;have hres:(((c.toNat:Int)==((48:UInt8).toNat:Int)) || ((c.toNat:Int)==((49:UInt8).toNat:Int)))=false:=(by rw[Zoz];exact⟨b0,b1⟩);rw[hres];clear e48 hres h0 h1;exact Qhn
theorem Za0 (s:ByteArray) (hs:s.size<=9223372036854775807) (w:World):
 Calls prog 48 #[.string s] w fun e w'=>e=.returned (.bool (Ea.digs s.data.toList))∧w=w':=by
 obtain⟨res,hres⟩:∃res,Ea.digs s.data.toList=res:=⟨_,rfl⟩
 rw[hres]
 have HRES:=ZmE hres
 clear hres
 go_enter func48,ntmps48
 go_wp2
 go_loop [6] (fun i=>∃k:Nat,k<=s.size∧i=.int .i64 (k:Int)∧Hid ((s.data.toList.take k).all (fun c=>Cd.isDig c.toNat)=true)) (fun i=>s.size-(intOf i).toNat)
 case atStart=>exact QaF
 case round=>obtain⟨k,hk,rfl,hal⟩:=hrel;by_cases hlt:k<s.size;(·have HA:=ZmE (Zag s (fun c=>Cd.isDig c.toNat) k hlt);have HN:=ZmE (Zau s (fun c=>Cd.isDig c.toNat) k hlt);have h3:s[k].toNat<48∨(48<=s[k].toNat∧57<s[k].toNat)∨(48<=s[k].toNat∧s[k].toNat<=57):=QhN;rcases h3 with h3|⟨h3,h4⟩|⟨h3,h4⟩;(·have HF:Hid (res=false):=ZmE (by rw[<-HRES.out];exact HN.out QiI);have b1:(s[k].toNat:Int)<48:=QhN;clear h3 HA HN;exact QbY);(·have HF:Hid (res=false):=ZmE (by rw[<-HRES.out];exact HN.out QiI);have b1:¬(s[k].toNat:Int)<48:=QhN;have b2:(57:Int)<(s[k].toNat:Int):=QhN;clear h3 h4 HA HN;exact QbY);·have HO:Hid ((s.data.toList.take (k+1)).all (fun c=>Cd.isDig c.toNat)=true):=ZmE QjR;have b1:¬(s[k].toNat:Int)<48:=QhN;have b2:¬(57:Int)<(s[k].toNat:Int):=QhN;clear h3 h4 HA HN;exact QaZ);·obtain rfl:k=s.size:=QhN;have HF:Hid (res=true):=ZmE (by rw[<-HRES.out];have:=hal.out;rw[Zx]at this;exact this);clear hk hlt hal;exact QbY
end
end Go.Proofs.YtbngggoccndefaaGreatDoor
