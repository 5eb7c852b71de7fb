/-
  Laid.
-/
import Derived.Test.YtbngggoccndefaaGreatDoorRt12
import Derived.Test.YtbngggoccndefaaGreatDoorRt16
set_option maxHeartbeats 8000000
set_option maxRecDepth 100000
set_option linter.all false
namespace Go.Proofs.YtbngggoccndefaaGreatDoor
open Go.Proofs.Tryz
section
namespace Ln
abbrev S:=List UInt8
abbrev Lin:=Int×S×S
def zero:Lin:=(0,[],[])
def of128 (d:List Int×Int):Option Lin:=
 if d.2≠0 then none
 else if d.1.head? =some 256 then
  (
   if(Gs.frChars d.1).2≠0 then none
   else if(Gs.format (Gs.frChars d.1).1).2≠0 then none
   else some (9,(Gs.format (Gs.frChars d.1).1).1,[]))
 else if d.1.any (fun c=>decide (127<c))then none
 else some (8,d.1.map (fun c=>UInt8.ofNat c.toNat),[])
def r128 (row:List Bool):Option Lin:=of128 (Cc.dec row)
def rEan (row:List Bool):Option Lin:=if(Ea.dec row).2=0 then some (Ea.dec row).1 else none
def rTwo (k:Int) (row:List Bool):Option Lin:=if(Tw.dec k (Rn.widths row) false).2=0 then some (k,(Tw.dec k (Rn.widths row) false).1,[])else none
def reader (i:Nat) (row:List Bool):Option Lin:=if i=0 then rEan row else if i=1 then r128 row else if i=2 then rTwo 5 row else if i=3 then rTwo 6 row else rTwo 7 row
def found (row:List Bool):Nat->Nat×Lin
 |0=>(0,zero)
 |n+1=>match reader n row with
  |none=>found row n
  |some x=>((found row n).1+1,x)
def outcome (p:Nat×Lin):Lin×Int:=if p.1=0 then(zero,18)else if 1<p.1 then(zero,34)else(p.2,0)
def dark (row:List Bool):Bool:=row.any fun b=>b
def decode (row:List Bool):Lin×Int:=if 65536<row.length then(zero,4)else if dark row=false then(zero,5)else outcome (found row 5)
def total11 (n:Nat):Int:=11*((n:Int)-7)/6+13
def quants (ws:List Int):List Int->List (List Int)
 | []=>[]
 |t::r=>(if(Rn.quant ws t).2=0 then [(Rn.quant ws t).1]else [])++quants ws r
def wides (ws:List Int):List (List Int):=if(Tw.wide ws).2=0 then [(Tw.wide ws).1.map fun b=>if b then 3 else 1]else []
def totals (n:Nat):List Int:=
 (if n=59 then [95]else if n=43 then [67]else if n=33 then [51]else [])++(if 13<=n∧(n-7)%6=0 then [total11 n]else [])
def cands (ws:List Int):List (List Int):=(ws.map fun x=>x/Rn.unit ws)::(quants ws (totals ws.length)++wides ws)
def quiet (m:List Bool) (a b:Nat):List Bool:=List.replicate a false++m++List.replicate b false
def rowOf (l:List Int) (left right s:Int):List Bool:=quiet (Rn.modules l).1 (min 64 (left*Rn.sum l/s)).toNat (min 64 (right*Rn.sum l/s)).toNat
def tryGo (left right s:Int):List (List Int)->Option Lin
 | []=>none
 |l::r=>if(Rn.modules l).2=0∧(decode (rowOf l left right s)).2=0 then some (decode (rowOf l left right s)).1 else tryGo left right s r
def try_ (ws:List Int) (left right:Nat):Option Lin:=tryGo left right (Rn.sum ws) (cands ws)
def readD (row:List Bool):Option Lin:=try_ (Rn.widths row) (Ea.ldg row) (Ea.trl row)
def read (row:List Bool):Lin×Int:=
 if 65536<row.length then(zero,4)else if dark row=false then(zero,5)
 else match readD row with
  |some x=>(x,0)
  |none=>match readD row.reverse with
   |some x=>(x,0)
   |none=>(zero,18)
def good (rows:List (List Bool)):List Lin:=rows.filterMap fun r=>if(read r).2=0 then some (read r).1 else none
def bestGo (all:List Lin):Lin×Nat->List Lin->Lin×Nat
 |p,[]=>p
 |p,x::r=>bestGo all (if p.2<all.count x then(x,all.count x)else p) r
def vote (rows:List (List Bool)):Lin×Int×Int:=
 if 4096<rows.length then(zero,0,4)
 else if(bestGo (good rows) (zero,0) (good rows)).2=0 then(zero,0,29)
 else((bestGo (good rows) (zero,0) (good rows)).1,((bestGo (good rows) (zero,0) (good rows)).2:Int),0)
end Ln
namespace Ea
def mb (b:Bool):UInt8:=if b then 49 else 48
def mS (l:List Bool):List UInt8:=l.map mb
theorem mb_inj {a b:Bool} (h:mb a=mb b):a=b:=by cases a<;>cases b<;>first|rfl|(revert h;decide)
theorem mS_inj {a b:List Bool}:mS a=mS b↔a=b:=by
 refine⟨fun h=> ?_,fun h=>by rw[h]⟩
 induction a generalizing b with
 |nil=>cases b with
  |nil=>rfl
  |cons y b=>simp[mS]at h
 |cons x a ih=>cases b with
  |nil=>simp[mS]at h
  |cons y b=>simp only[mS,Y4,UL]at h;rw[mb_inj h.1,ih h.2]
theorem mS_app (a b:List Bool):mS (a++b)=mS a++mS b:=by simp[mS]
theorem mS_len (a:List Bool):(mS a).length=a.length:=by simp[mS]
theorem mS_take (a:List Bool) (n:Nat):(mS a).take n=mS (a.take n):=by simp[mS,G8]
theorem mS_drop (a:List Bool) (n:Nat):(mS a).drop n=mS (a.drop n):=by simp[mS,S7]
theorem mS_prefix (s p:List Bool):Lib.hasPrefix (mS s) (mS p)=decide (s.take p.length=p):=by rw[<-Lib.hasPrefix_of_take,mS_len,mS_len,mS_take,U4];simp only[N1,V1,C2,mS_inj];refine⟨fun h=>h.2,fun h=>⟨?_,h⟩⟩;have:=R0 List.length h;exact MH
theorem mS_suffix (s p:List Bool) (hp:p.length<=s.length):Lib.hasSuffix (mS s) (mS p)=decide (s.drop (s.length-p.length)=p):=by rw[<-Lib.hasSuffix_of_drop,mS_len,mS_len,mS_drop,U4];simp only[N1,V1,C2,mS_inj];exact⟨fun h=>h.2,fun h=>⟨hp,h⟩⟩
def cS (t:Nat):UInt8:=UInt8.ofNat (65+t)
def sS (u:List Nat):List UInt8:=u.map cS
theorem cS_inj:∀a b:Fin 3,cS a=cS b->a=b:=by decide
theorem cS_inj' {a b:Nat} (ha:a<3) (hb:b<3) (h:cS a=cS b):a=b:=by have:=cS_inj ⟨a,ha⟩ ⟨b,hb⟩ h;exact V6
theorem sS_inj {a b:List Nat} (ha:∀u∈a,u<3) (hb:∀u∈b,u<3) (h:sS a=sS b):a=b:=by
 induction a generalizing b with
 |nil=>cases b with
  |nil=>rfl
  |cons y b=>simp[sS]at h
 |cons x a ih=>cases b with
  |nil=>simp[sS]at h
  |cons y b=>simp only[sS,Y4,UL]at h;rw[cS_inj' (ha x (B1 ..)) (hb y (B1 ..)) h.1,ih (fun u hu=>ha u (C1 _ hu)) (fun u hu=>hb u (C1 _ hu)) h.2]
theorem sS_app (a b:List Nat):sS (a++b)=sS a++sS b:=by simp[sS]
theorem sS_len (a:List Nat):(sS a).length=a.length:=by simp[sS]
def bS (l:List UInt8):ByteArray:=⟨l.toArray⟩
theorem bS_inj {a b:List UInt8}:bS a=bS b↔a=b:=⟨fun h=>by simpa[bS]using h,fun h=>by rw[h]⟩
theorem bS_list (a:List UInt8):(bS a).data.toList=a:=rfl
theorem bS_of (s:ByteArray):bS s.data.toList=s:=Lib.mk_data s
theorem idxFromS_map {α:Type} [DecidableEq α] (f:α->ByteArray) (y:α):∀(l:List α) (i:Nat),(∀z∈l,f z=f y->z=y)->
 Lib.idxFromS (l.map f) (f y) i=(match idx l y with|some n=>((i+n:Nat):Int)|none=> -1):=by
 intro l
 induction l with
 |nil=>intro i _;rfl
 |cons z l ih=>
  intro i h;rw[Y4,Lib.idxFromS,idx];by_cases e:z=y;(·subst e;rw[G0 rfl,G0 rfl];rfl)
  ·rw[D0 (fun e2=>e (h z (B1 ..) e2)),D0 e,ih (i+1) (fun z hz=>h z (C1 _ hz))]
   cases idx l y with
   |none=>rfl
   |some n=>simp only[H7];congr 1;omega
def plcO (o:Option Nat):Int:=match o with
 |some n=>(n:Int)
 |none=> -1
theorem idxOfS_map {α:Type} [DecidableEq α] (f:α->ByteArray) (l:List α) (y:α) (h:∀z∈l,f z=f y->z=y):Lib.idxOfS (l.map f) (f y)=plcO (idx l y):=by
 unfold Lib.idxOfS plcO
 rw[idxFromS_map f y l 0 h]
 cases idx l y with
 |none=>rfl
 |some n=>simp
def rowB (t:Nat):List ByteArray:=(tab.getD t []).map (fun m=>bS (mS m))
theorem row_idx (t:Nat) (m:List Bool):Lib.idxOfS (rowB t) (bS (mS m))=plcO (lookT t m):=by unfold rowB lookT;exact idxOfS_map (fun m=>bS (mS m)) _ m (fun z _ h=>mS_inj.1 (bS_inj.1 h))
def leftB:List ByteArray:=setsL.map (fun u=>bS (sS u))
theorem left_small:∀u∈setsL,∀x∈u,x<3:=by decide
theorem left_idx (u:List Nat) (h:∀x∈u,x<3):Lib.idxOfS leftB (bS (sS u))=plcO (find13 u):=
 idxOfS_map (fun u=>bS (sS u)) _ u (fun z hz e=>sS_inj (left_small z hz) h (bS_inj.1 e))
def setsE1:List (List Nat):=setsE0.map (fun l=>l.map (fun x=>1-x))
def compB (y:Nat):List ByteArray:=(if y=0 then setsE0 else setsE1).map (fun u=>bS (sS u))
theorem comp_small0:∀u∈setsE0,∀x∈u,x<3:=by decide
theorem comp_small1:∀u∈setsE1,∀x∈u,x<3:=by decide
theorem comp_idx (y:Nat) (u:List Nat) (h:∀x∈u,x<3):Lib.idxOfS (compB y) (bS (sS u))=plcO (idx (if y=0 then setsE0 else setsE1) u):=
 idxOfS_map (fun u=>bS (sS u)) _ u (fun z hz e=>sS_inj (by split at hz;(·exact comp_small0 z hz);·exact comp_small1 z hz) h (bS_inj.1 e))
theorem findE_eq (u:List Nat):findE u=match idx setsE0 u with
 |some c=>some (0,c)
 |none=>(idx setsE1 u).map (fun c=>(1,c)):=rfl
def dl (l:List UInt8) (us:List Nat):List (List Bool):=List.zipWith (fun c t=>modl t (c.toNat-48)) l us
theorem dl_len {l:List UInt8} {us:List Nat} (h:us.length=l.length):(dl l us).length=l.length:=by unfold dl;rw[List.length_zipWith,h,Nat.min_self]
theorem dl_at {l:List UInt8} {us:List Nat} {i:Nat} {c:UInt8} {t:Nat} (h1:l[i]? =some c) (h2:us[i]? =some t):(dl l us)[i]? =some (modl t (c.toNat-48)):=by unfold dl;rw[List.getElem?_zipWith,h1,h2]
theorem join_draw (sep:List Bool):∀(l:List UInt8) (us:List Nat),us.length=l.length->Lib.join ((dl l us).map mS) (mS sep)=mS (drw sep l us):=by
 intro l
 induction l with
 |nil=>intro us _;rfl
 |cons c l ih=>
  intro us h
  cases us with
  |nil=>simp at h
  |cons u us=>
   have h':us.length=l.length:=A6;have e:dl (c::l) (u::us)=modl u (c.toNat-48)::dl l us:=rfl;rw[drw_cons,e,Y4,mS_app];by_cases h0:l=[];(·subst h0;have:us=[]:=V2 (by simpa using h');subst this;rw[G0 rfl,show dl [] []=[]from rfl,XC,Lib.join_one];simp[mS])
   ·rw[D0 h0,mS_app,<-ih us h',SY]
    congr 1
    have hp:0<(dl l us).length:=by rw[dl_len h'];exact F6.2 h0
    cases hd:dl l us with
    |nil=>rw[hd]at hp;simp at hp
    |cons m r=>rw[Y4,SY];simp[Lib.joinTail]
end Ea
end
section
open Go.RowKit
def dR (m:List Bool) (w:World) (e:Ending) (w':World):Prop:=∃v,e=.returned v∧SlK w' v (m.map encT)∧Ext w w'
theorem PE (s:ByteArray) (m:List Bool) (hs:s.data.toList=Ea.mS m) (hm:m.length<=1000000) (w:World):
 Calls prog 113 #[.string s] w (dR m w):=by
 have hsz:s.size=m.length:=WF
 have HS:=B0 hs
 have HZ:=B0 hsz
 have hss:s.size<=1000000:=by omega
 have hmk:=B8 (P:=prog) 26 4 (.bool false) 1 underlying26 M0 rfl .i64 .i64 s.size C0 C0
 clear hs hsz
 go_enter func113,ntmps113
 go_wp2
 clear hmk
 go_loopw [10] (fun i wr=>∃j:Nat,j<=s.size∧i=.int .i64 (j:Int)∧wr.rowIs w.heap.size 4 s.size (fun k=>if k<j then encT (m.getD k false)else .bool false)∧Ext w wr) (fun i _=>s.size-(intOf i).toNat)
 case atStart=>exact SZ
 case round=>
  obtain⟨j,hj,rfl,hrow,hxr⟩:=hrel;by_cases hlt:j<s.size
  ·have hcell:=hrow.cell hlt;have hfz:=hrow.frozen j;obtain⟨b,hb⟩:∃b,m[j]? =some b:=⟨_,P0 (by rw[<-HZ.out];exact hlt)⟩;have hsj:s[j]=Ea.mb b:=(by have h1:s.data.toList[j]? =some s[j]:=P0 PF;rw[HS.out]at h1;unfold Ea.mS at h1;rw[X2,hb]at h1;simpa using h1.symm);have HB:Hid (m.getD j false=b):=B0 (by rw[A1,hb];rfl);have hbit:((s[j].toNat:Int)==49)=b:=(by rw[hsj];cases b<;>rfl);have HR5:Hid ((wr.setCell ⟨w.heap.size,j,none⟩ (.bool b)).rowIs w.heap.size 4 s.size (fun k=>if k<j+1 then encT (m.getD k false)else .bool false)):=
    B0 ((hrow.set j (.bool b)).congr (fun k hk=>by by_cases h1:k=j;(·subst h1;rw[G0 rfl,G0 C0,HB.out];rfl);·rw[D0 h1];by_cases h2:k<j;(·exact X8);·rw[D0 h2,D0 C0]))
   have HX:=B0 (hxr.setCell (p:=⟨w.heap.size,j,none⟩) (I0 _) (.bool b));clear hrow hxr hb hsj;exact qM
  ·obtain rfl:j=s.size:=C0;have hsl:=SlK.row hrow;clear hj hlt hrow;go_wp2;go_ret;refine⟨_,rfl,hsl.congr ?_,hxr⟩;apply B9;(·simp[HZ.out]);·intro i h1 h2;simp at h1 h2;simp[h1,h2]
theorem dS (v:Value) (m:List Bool) (w:World) (hv:SlK w v (m.map encT)) (hm:m.length<=1000000):
 Calls prog 137 #[v] w fun e w'=>e=.returned (.string (Ea.bS (Ea.mS m)))∧Ext w w':=by
 obtain⟨hsl,a,c,rfl,_⟩:=hv
 rw[N0]at hsl⊢
 have HV:=B0 hsl
 have hmk:=B8 (P:=prog) 90 5 (.int .u8 0) 1 underlying90 M0 rfl .i64 .i64 m.length C0 C0
 clear hsl
 go_enter func137,ntmps137
 go_wp2
 clear hmk
 go_loopw [11] (fun i wr=>∃j:Nat,j<=m.length∧i=.int .i64 (j:Int)∧wr.rowIs w.heap.size 5 m.length (fun k=>if k<j then encB (Ea.mb (m.getD k false))else .int .u8 0)∧Ext w wr) (fun i _=>m.length-(intOf i).toNat)
 case atStart=>exact SZ
 case round=>
  obtain⟨j,hj,rfl,hrow,hxr⟩:=hrel;by_cases hlt:j<m.length
  ·have hcell:=hrow.cell hlt
   have hfz:=hrow.frozen j
   obtain⟨bb,off,ha,hbl,hc0⟩:=HV.out.at_ (k:=j) (by rw[N0];exact hlt)
   subst ha
   obtain⟨b,hb⟩:∃b,m[j]=b:=⟨_,rfl⟩
   rw[H8,hb]at hc0
   have hcc:=(hxr.cell (p:=⟨bb,off+j,none⟩) hbl).trans hc0
   have HB:Hid (m.getD j false=b):=B0 (by rw[A1,P0 hlt];exact hb)
   have hne:¬bb=w.heap.size:=by omega
   have HX1:=B0 (fun u=>hxr.setCell (p:=⟨w.heap.size,j,none⟩) (I0 _) u)
   have HX2:=B0 (fun u v=>(hxr.setCell (p:=⟨w.heap.size,j,none⟩) (I0 _) u).setCell (p:=⟨w.heap.size,j,none⟩) (I0 _) v)
   have HR1:∀x,encB (Ea.mb b)=x->Hid ((wr.setCell ⟨w.heap.size,j,none⟩ x).rowIs w.heap.size 5 m.length (fun k=>if k<j+1 then encB (Ea.mb (m.getD k false))else .int .u8 0)):=fun x hx=>
    B0 ((hrow.set j x).congr (fun k hk=>by by_cases h1:k=j;(·exact qN);·rw[D0 h1];by_cases h2:k<j;(·exact X8);·rw[D0 h2,D0 C0]))
   have HR2:∀x y,encB (Ea.mb b)=y->Hid (((wr.setCell ⟨w.heap.size,j,none⟩ x).setCell ⟨w.heap.size,j,none⟩ y).rowIs w.heap.size 5 m.length (fun k=>if k<j+1 then encB (Ea.mb (m.getD k false))else .int .u8 0)):=fun x y hx=>
    B0 (((hrow.set j x).set j y).congr (fun k hk=>by by_cases h1:k=j;(·exact qN);·rw[D0 h1,D0 h1];by_cases h2:k<j;(·exact X8);·rw[D0 h2,D0 C0]))
   cases b with
   |true=>have hR:=HR2 (.int .u8 48) (.int .u8 49) rfl;have hrow2:=hrow.set j (.int .u8 48);have hcell2:=hrow2.cell hlt;have hfz2:=hrow2.frozen j;clear hrow hxr HR1 HR2 hrow2 hb;go_wp2;go_roundw;(case rel=>exact⟨j+1,by omega,by go_num,by first|exact hR.out|simpa using hR.out,by first|exact HX2.out _ _|simpa using HX2.out _ _⟩);case measure=>exact QD
   |false=>have hR:=HR1 (.int .u8 48) rfl;clear hrow hxr HR1 HR2 hb;go_wp2;go_roundw;(case rel=>exact⟨j+1,by omega,by go_num,hR.out,HX1.out _⟩);case measure=>exact QD
  ·obtain rfl:j=m.length:=C0;have hsl:=Sl.row hrow;have hcv:=Zn (l:=Ea.mS m) (hsl.congr (by apply B9;(·simp[Ea.mS]);·intro i h1 h2;simp at h1;simp[h1,Ea.mS]));clear hj hlt hrow hsl;go_wp2;go_ret;exact⟨rfl,hxr⟩
end
section
namespace Ea
theorem full_ok {k:Int} {l:List UInt8} (h:full k l=0):size k≠0∧digs l=true∧l.length=size k∧(k=4->l.getD 0 0<=49)∧l=l.take (size k-1)++[chkOf k (l.take (size k-1))]:=by
 unfold full at h;split at h;·cases h
 rename_i h1;unfold comp at h;split at h;·cases h
 rename_i h2;split at h;·cases h
 rename_i h3;have h3:digs l=true:=by simpa using h3
 split at h;·cases h
 rename_i h4;split at h;·cases h
 rename_i h5;split at h;·cases h
 rename_i h6;have hl:l.length=size k:=by by_cases e:l.length=size k;(·exact e);·exact absurd ⟨h2,h3,by by_cases e2:l.length+1=size k;exact e2;exact absurd ⟨e,e2⟩ h4⟩ h1
 refine⟨h2,h3,hl,fun e=> ?_,?_⟩;·have:¬49<l.getD 0 0:=fun e2=>h5 ⟨e,e2⟩;exact PG.1 this
 ·by_cases e:l=l.take (size k-1)++[chkOf k (l.take (size k-1))];(·exact e);·exact absurd ⟨hl,e⟩ h6
theorem full_of {k:Int} {l:List UInt8} (h1:size k≠0) (h2:digs l=true) (h3:l.length=size k) (h4:k=4->l.getD 0 0<=49) (h5:l=l.take (size k-1)++[chkOf k (l.take (size k-1))]):full k l=0:=by unfold full;rw[D0 C0];unfold comp;rw[D0 h1,D0 (by simp[h2]),D0 C0,D0 (fun h=>by have:=h4 h.1;exact PG.2 this h.2),D0 (fun h=>h.2 h5)]
theorem full_zero {k:Int} {l:List UInt8} (h1:size k≠0) (h2:digs l=true) (h3:l.length=size k) (h4:k=4->l.getD 0 0<=49):full k l=if l=l.take (size k-1)++[chkOf k (l.take (size k-1))]then 0 else 8:=by
 by_cases h5:l=l.take (size k-1)++[chkOf k (l.take (size k-1))];·rw[G0 h5];exact full_of h1 h2 h3 h4 h5
 ·rw[D0 h5];unfold full;rw[D0 C0];unfold comp;rw[D0 h1,D0 (by simp[h2]),D0 C0,D0 (fun h=>by have:=h4 h.1;exact PG.2 this h.2),G0 ⟨h3,h5⟩]
theorem sets13_ok:∀d:Fin 10,(sets13 d).length=6∧(∀u∈sets13 d,u<2)∧find13 (sets13 d)=some d.1:=by decide
theorem setsE_ok:∀(s:Fin 2) (c:Fin 10),(setsE s c).length=6∧(∀u∈setsE s c,u<2)∧findE (setsE s c)=some (s.1,c.1):=by decide
theorem setsA2_ok:∀d:Fin 4,(setsA2.getD d []).length=2∧∀u∈setsA2.getD d [],u<2:=by decide
theorem setsA5_ok:∀d:Fin 10,(setsA5.getD d []).length=5∧∀u∈setsA5.getD d [],u<2:=by decide
theorem setsAdd_ok {a:List UInt8} (h:a.length=2∨a.length=5):(setsAdd a).length=a.length∧∀u∈setsAdd a,u<2:=by
 unfold setsAdd;rcases h with h|h;·rw[G0 h,h];exact setsA2_ok ⟨_,UN _ C0⟩
 ·rw[D0 C0,h];exact setsA5_ok ⟨_,UN _ C0⟩
theorem find13_some {u:List Nat} {d:Nat} (h:find13 u=some d):d<10∧u=sets13 d:=by have h1:=idx_some h;obtain⟨h2,h3⟩:=J1.1 h1;exact⟨h2,by unfold sets13;rw[A1,h1];rfl⟩
theorem dv_lt {l:List UInt8} (h:digs l=true) (i:Nat):dv l i<10:=by
 unfold dv
 rw[A1]
 cases e:l[i]? with
 |none=>simp
 |some c=>have:=digs_iff.1 h c (I1 e);simp;omega
theorem dv_nat {l:List UInt8} (h:digs l=true) {i:Nat} (hi:i<l.length):chr (dv l i)=l.getD i 0:=by unfold chr dv;rw[A1,A1,P0 hi];exact chr_sub (digs_iff.1 h _ (K4 hi))
theorem may_both {t:Nat} {us:List Nat} (h:∀u∈us,u<2):∀u∈us,may true t u:=fun u hu=>by unfold may;rw[G0 rfl];exact h u hu
theorem may_two:∀u∈[2,2,2,2,2,2],may false 2 u:=fun u hu=>by unfold may;simp at hu⊢;exact hu
theorem may_two':∀u∈[2,2,2,2],may false 2 u:=fun u hu=>by unfold may;simp at hu⊢;exact hu
theorem may_nil:∀u∈[0,0,0,0],may false 0 u:=fun u hu=>by unfold may;simp at hu⊢;exact hu
theorem drw6_len {l:List UInt8} {us:List Nat} (h1:digs l=true) (h2:l.length=6) (h3:us.length=6) (h4:∀u∈us,u<3):(drw [] l us).length=42:=by rw[drw_len [] l us h1 C0 h4,h2];rfl
theorem drw4_len {l:List UInt8} {us:List Nat} (h1:digs l=true) (h2:l.length=4) (h3:us.length=4) (h4:∀u∈us,u<3):(drw [] l us).length=28:=by rw[drw_len [] l us h1 C0 h4,h2];rfl
theorem rcg6 {both:Bool} {t:Nat} (ht:t<3) {l:List UInt8} {us:List Nat} (rest:List Bool) (h1:digs l=true) (h2:l.length=6) (h3:us.length=6) (h4:∀u∈us,may both t u):rcg both t 0 6 (drw [] l us++rest)=some (l,us):=qO
theorem rcg4 {both:Bool} {t:Nat} (ht:t<3) {l:List UInt8} {us:List Nat} (rest:List Bool) (h1:digs l=true) (h2:l.length=4) (h3:us.length=4) (h4:∀u∈us,may both t u):rcg both t 0 4 (drw [] l us++rest)=some (l,us):=qO
theorem gd_len:gd.length=3:=rfl
theorem md_len:md.length=5:=rfl
theorem eE_len:eE.length=6:=rfl
theorem sA_len:sA.length=4:=rfl
theorem sym13_len {l:List UInt8} (h1:digs l=true) (h2:l.length=13):(sym13 l).length=95:=by unfold sym13;obtain⟨a,b,_⟩:=sets13_ok ⟨dv l 0,dv_lt h1 0⟩;simp only[O0,gd_len,md_len];rw[drw6_len (digs_take (digs_drop h1 1) 6) I2 a (fun u hu=>by have:=b u hu;omega),drw6_len (digs_drop h1 7) I2 rfl L0]
theorem sym8_len {l:List UInt8} (h1:digs l=true) (h2:l.length=8):(sym8 l).length=67:=by unfold sym8;simp only[O0,gd_len,md_len];rw[drw4_len (digs_take h1 4) I2 rfl L0,drw4_len (digs_drop h1 4) I2 rfl L0]
theorem symE_len {l:List UInt8} (h1:digs l=true) (h2:l.length=8) (h3:dv l 0<2):(symE l).length=51:=by unfold symE;obtain⟨a,b,_⟩:=setsE_ok ⟨dv l 0,h3⟩ ⟨dv l 7,dv_lt h1 7⟩;simp only[O0,gd_len,eE_len];rw[drw6_len (digs_take (digs_drop h1 1) 6) I2 a (fun u hu=>by have:=b u hu;omega)]
theorem split13 {l:List UInt8} (h:l.length=13):l.getD 0 0::((l.drop 1).take 6++l.drop 7)=l:=by
 match l,h with
 | [_,_,_,_,_,_,_,_,_,_,_,_,_],_=>rfl
theorem split8 {l:List UInt8} (h:l.length=8):l.getD 0 0::((l.drop 1).take 6++[l.getD 7 0])=l:=by
 match l,h with
 | [_,_,_,_,_,_,_,_],_=>rfl
theorem rd13_sym {l:List UInt8} (h1:digs l=true) (h2:l.length=13):rd13 (sym13 l)=some l:=by unfold rd13 sym13;obtain⟨a,b,c⟩:=sets13_ok ⟨dv l 0,dv_lt h1 0⟩;dsimp only at a b c;have d1:=digs_take (digs_drop h1 1) 6;have l1:=drw6_len d1 I2 a (fun u hu=>by have:=b u hu;omega);have d2:=digs_drop h1 7;have l2:=drw6_len d2 I2 (us:=[2,2,2,2,2,2]) rfl L0;generalize hA:drw [] ((l.drop 1).take 6) (sets13 (dv l 0))=A at*;generalize hB:drw [] (l.drop 7) [2,2,2,2,2,2]=B at*;rw[show gd++A++md++B++gd=gd++(A++(md++B++gd)) by simp,drop_app gd _ 3 rfl];rw[show gd++(A++(md++B++gd))=(gd++A++md)++(B++gd) by simp,drop_app (gd++A++md) _ 50 (by simp[l1,gd_len,md_len])];rw[show(gd++A++md)++(B++gd)=(gd++A)++(md++(B++gd)) by simp,drop_app (gd++A) _ 45 (by simp[l1,gd_len]),take_app md _ 5 rfl];rw[<-hA,<-hB,rcg6 C0 _ d1 I2 a (may_both b),rcg6 C0 _ d2 I2 rfl may_two];dsimp only;rw[G0 rfl,c,H7,dv_nat h1 C0,split13 h2]
theorem rd8_sym {l:List UInt8} (h1:digs l=true) (h2:l.length=8):rd8 (sym8 l)=some l:=by unfold rd8 sym8;have d1:=digs_take h1 4;have l1:=drw4_len d1 I2 (us:=[0,0,0,0]) rfl L0;have d2:=digs_drop h1 4;have l2:=drw4_len d2 I2 (us:=[2,2,2,2]) rfl L0;generalize hA:drw [] (l.take 4) [0,0,0,0]=A at*;generalize hB:drw [] (l.drop 4) [2,2,2,2]=B at*;rw[show gd++A++md++B++gd=gd++(A++(md++B++gd)) by simp,drop_app gd _ 3 rfl];rw[show gd++(A++(md++B++gd))=(gd++A++md)++(B++gd) by simp,drop_app (gd++A++md) _ 36 (by simp[l1,gd_len,md_len])];rw[show(gd++A++md)++(B++gd)=(gd++A)++(md++(B++gd)) by simp,drop_app (gd++A) _ 31 (by simp[l1,gd_len]),take_app md _ 5 rfl];rw[<-hA,<-hB,rcg4 C0 _ d1 I2 rfl may_nil,rcg4 C0 _ d2 I2 rfl may_two'];dsimp only;rw[G0 rfl,C6]
theorem rdE_sym {l:List UInt8} (h1:digs l=true) (h2:l.length=8) (h3:dv l 0<2):rdE (symE l)=some l:=by unfold rdE symE;obtain⟨a,b,c⟩:=setsE_ok ⟨dv l 0,h3⟩ ⟨dv l 7,dv_lt h1 7⟩;dsimp only at a b c;have d1:=digs_take (digs_drop h1 1) 6;rw[G1,drop_app gd _ 3 rfl,rcg6 C0 _ d1 I2 a (may_both b)];dsimp only;rw[c,H7];dsimp only;rw[dv_nat h1 C0,dv_nat h1 C0,split8 h2]
def wOf (k:Int):Nat:=if k=1∨k=3 then 95 else if k=2 then 67 else 51
theorem kinds {k:Int} (h:size k≠0):k=1∨k=2∨k=3∨k=4:=by unfold size at h;(repeat' split at h)<;>omega
theorem dv2 {l:List UInt8} (h1:digs l=true) (h2:0<l.length) (h:l.getD 0 0<=49):dv l 0<2:=by unfold dv;rw[A1,P0 h2]at*;have:(l[0]).toNat<=49:=h;exact E1
theorem digs_cons {c:UInt8} {l:List UInt8} (hc:48<=c.toNat∧c.toNat<=57) (h:digs l=true):digs (c::l)=true:=digs_iff.2 fun x hx=>by
 rcases U1.1 hx with rfl|hx;·exact hc
 ·exact digs_iff.1 h x hx
theorem sym_len {k:Int} {l:List UInt8} (h:full k l=0):(sym k l).length=wOf k:=by
 obtain⟨h1,h2,h3,h4,_⟩:=full_ok h;rcases kinds h1 with rfl|rfl|rfl|rfl;·exact sym13_len h2 h3
 ·exact sym8_len h2 h3
 ·exact sym13_len (digs_cons J0 h2) PH
 ·exact symE_len h2 h3 (dv2 h2 (by rw[h3];decide) (h4 rfl))
theorem gsP_zero (l:List UInt8):(Cd.gsP (48::l)).1=(Cd.gsP l).1:=by
 have:Cd.dg 48=0:=by decide
 rw[Cd.gsP,this];simp
theorem chk_zero (l:List UInt8):chk (48::l)=chk l:=by unfold chk;rw[gsP_zero]
theorem full_13 {l:List UInt8} (h:full 3 l=0):full 1 (48::l)=0:=by
 obtain⟨h1,h2,h3,h4,h5⟩:=full_ok h;refine full_of J0 (digs_cons J0 h2) PH (fun e=>by cases e) ?_;have e1:size 1-1=12:=rfl;have e3:size 3-1=11:=rfl;rw[e3]at h5;rw[e1,VI,P2];congr 1;conv=>lhs;rw[h5]
 congr 2;unfold chkOf;simp[chk_zero]
def outK (k:Int) (l:List UInt8):Int:=if k=1∧l.getD 0 0=48 then 3 else k
def outT (k:Int) (l:List UInt8):List UInt8:=if k=1∧l.getD 0 0=48 then l.drop 1 else l
theorem take_gd (r:List Bool):(gd++r).take 3=gd:=take_app gd r 3 rfl
theorem rdSym_sym {k:Int} {l:List UInt8} (h:full k l=0):rdSym (wOf k) (sym k l)=((outK k l,outT k l),0):=by
 obtain⟨h1,h2,h3,h4,h5⟩:=full_ok h;have hlen:=sym_len h;have key:∀(n:Nat) (s:List Bool) (k':Int) (l':List UInt8),full k' l'=0->rdK n s=some l'->kindOf n=k'->s.length=n->(∃q,s=gd++q)->(∃q,s=q++stp n)->
  rdSym n s=if n=95∧l'.getD 0 0=48 then((3,l'.drop 1),0)else((k',l'),0):=by
  intro n s k' l' a1 a2 a3 a4 ⟨q,a5⟩ ⟨q2,a6⟩
  unfold rdSym
  have e1:s.take 3=gd:=by rw[a5];exact take_gd q
  have e2:s.drop (n-(stp n).length)=stp n:=by(conv=>lhs;rw[a6]);refine drop_app _ _ _ ?_;have:=R0 List.length a6;rw[O0]at this;omega
  rw[D0 (by simp[e1]),D0 (by simp[e2]),a2]
  dsimp only
  rw[a3,a1,D0 L0]
 rcases kinds h1 with rfl|rfl|rfl|rfl;·rw[show wOf 1=95 from rfl,key 95 (sym 1 l) 1 l h (rd13_sym h2 h3) rfl hlen ⟨_,by unfold sym;rw[D0 J0,G0 rfl];unfold sym13;simp only[G1];rfl⟩ ⟨_,by unfold sym;rw[D0 J0,G0 rfl];unfold sym13;rfl⟩];unfold outK outT;by_cases e:l.getD 0 0=48;(·simp only[e,and_self,R4]);·simp only[e,and_false,I7]
 ·rw[show wOf 2=67 from rfl,key 67 (sym 2 l) 2 l h (rd8_sym h2 h3) rfl hlen ⟨_,by show sym8 l=_;unfold sym8;simp only[G1];rfl⟩ ⟨_,by show sym8 l=_;unfold sym8;rfl⟩];rfl
 ·have hz:=full_13 h;rw[show wOf 3=95 from rfl,key 95 (sym 3 l) 1 (48::l) hz (rd13_sym (digs_cons J0 h2) PH) rfl hlen ⟨_,by show sym13 (48::l)=_;unfold sym13;simp only[G1];rfl⟩ ⟨_,by show sym13 (48::l)=_;unfold sym13;rfl⟩];rfl
 ·have hd:=dv2 h2 (by rw[h3];decide) (h4 rfl);rw[show wOf 4=51 from rfl,key 51 (sym 4 l) 4 l h (rdE_sym h2 h3 hd) rfl hlen ⟨_,by show symE l=_;unfold symE;simp only[G1];rfl⟩ ⟨_,by show symE l=_;unfold symE;rfl⟩];rfl
theorem addn_len {a:List UInt8} (h1:digs a=true) (h2:a.length=2∨a.length=5):(addn a).length=wAdd a.length:=by obtain⟨e1,e2⟩:=setsAdd_ok h2;unfold addn;rw[O0,drw_len gA a _ h1 e1 (fun u hu=>by have:=e2 u hu;omega)];rcases h2 with h2|h2<;>rw[h2]<;>rfl
theorem drop_plus {α:Type} (a b:List α) (n:Nat):(a++b).drop (a.length+n)=b.drop n:=by rw[<-Y3,drop_app a b _ rfl]
theorem drw_gap (sep:List Bool) (hs:sep.length=2):∀(l:List UInt8) (us:List Nat) (i:Nat),digs l=true->us.length=l.length->(∀u∈us,u<3)->i+1<l.length->((drw sep l us).drop (7+9*i)).take 2=sep:=by
 intro l
 induction l with
 |nil=>intro us i _ _ _ h;simp at h
 |cons c l ih=>
  intro us i h1 h2 h3 h4
  cases us with
  |nil=>simp at h2
  |cons u us=>
   have hc:=digs_iff.1 h1 c (B1 ..)
   have hm:=modl_len' (h3 u (B1 ..)) (show c.toNat-48<10 by omega)
   have h0:l≠ []:=by intro e;subst e;simp at h4
   rw[drw_cons,D0 h0]
   cases i with
   |zero=>rw[drop_app _ _ _ (by rw[hm]),take_app _ _ 2 hs.symm]
   |succ i=>have hi:=ih us i (digs_iff.2 fun c hc=>digs_iff.1 h1 c (C1 _ hc)) F4 (fun u hu=>h3 u (C1 _ hu)) VE;rw[<-G1,show 7+9*(i+1)=(modl u (c.toNat-48)++sep).length+(7+9*i) by rw[O0,hm,hs];omega,drop_plus,hi]
theorem rdAdd_addn {a:List UInt8} (h1:digs a=true) (h2:a.length=2∨a.length=5):rdAdd a.length (addn a)=(a,0):=by
 obtain⟨e1,e2⟩:=setsAdd_ok h2;have e3:∀u∈setsAdd a,u<3:=fun u hu=>by have:=e2 u hu;omega
 unfold rdAdd;have t1:(addn a).take 4=sA:=take_app sA _ 4 rfl;have t2:(addn a).drop 4=drw gA a (setsAdd a):=drop_app sA _ 4 rfl;rw[t1,t2,D0 L0,D0,<-B3 (drw gA a (setsAdd a)),show(2:Nat)=gA.length from rfl,rcg_drw true 0 C0 gA a _ [] h1 e1 (may_both e2)];·simp
 ·rw[W6,S1];intro i hi;rw[N4]at hi;have:(addn a).drop (11+9*i)=(drw gA a (setsAdd a)).drop (7+9*i):=(by rw[<-t2,Y3];congr 1;omega);rw[this,drw_gap gA rfl a _ i h1 e1 e3 C0];simp
theorem head_app {s r:List Bool} (h:s.head? =some true):(s++r).head? =some true:=by
 cases s with
 |nil=>cases h
 |cons b s=>exact h
theorem last_app {s r:List Bool} (h:r.getLast? =some true):(s++r).getLast? =some true:=by rw[List.getLast?_append,h];rfl
theorem sym_head (k:Int) (l:List UInt8):(sym k l).head? =some true:=by
 unfold sym sym13 sym8 symE
 repeat' split
 all_goals rfl
theorem sym_last (k:Int) (l:List UInt8):(sym k l).getLast? =some true:=by
 unfold sym sym13 sym8 symE
 repeat' split
 all_goals exact last_app rfl
theorem modl_last:∀(t:Fin 2) (d:Fin 10),(modl t d).getLast? =some true:=by decide
theorem drw_last (sep:List Bool):∀(l:List UInt8) (us:List Nat),digs l=true->us.length=l.length->(∀u∈us,u<2)->l≠ []->(drw sep l us).getLast? =some true:=by
 intro l
 induction l with
 |nil=>intro us _ _ _ h;exact absurd rfl h
 |cons c l ih=>
  intro us h1 h2 h3 _
  cases us with
  |nil=>simp at h2
  |cons u us=>have hc:=digs_iff.1 h1 c (B1 ..);rw[drw_cons];by_cases h0:l=[];(·rw[G0 h0,B3];exact modl_last ⟨u,h3 u (B1 ..)⟩ ⟨c.toNat-48,by omega⟩);·rw[D0 h0];exact last_app (last_app (ih us (digs_iff.2 fun c hc=>digs_iff.1 h1 c (C1 _ hc)) F4 (fun u hu=>h3 u (C1 _ hu)) h0))
theorem addn_last {a:List UInt8} (h1:digs a=true) (h2:a.length=2∨a.length=5):(addn a).getLast? =some true:=by obtain⟨e1,e2⟩:=setsAdd_ok h2;exact last_app (drw_last gA a _ h1 e1 e2 (fun e=>by subst e;simp at h2))
def body (k:Int) (l a:List UInt8):List Bool:=if a.length=0 then sym k l else sym k l++lgt 9++addn a
theorem enc_body {k:Int} {l a:List UInt8} (h:(enc k l a).2=0):full k l=0∧digs a=true∧(a.length=0∨a.length=2∨a.length=5)∧(enc k l a).1=lgt (lq k)++body k l a++lgt (if a.length=0 then rq k else 7):=by
 unfold enc at h⊢;by_cases h1:full k l≠0;·rw[G0 h1]at h;exact absurd h h1
 ·rw[D0 h1]at h⊢;by_cases h2:digs a=false;(·exact ZZ);·rw[D0 h2]at h⊢;by_cases h3:a.length≠0∧a.length≠2∧a.length≠5;(·exact UR);·rw[D0 h3];refine⟨by omega,by simpa using h2,by omega,?_⟩;unfold body;by_cases h4:a.length=0;(·simp only[G0 h4]);·simp only[D0 h4,G1]
theorem rdShape_body {k:Int} {l a:List UInt8} (h:full k l=0) (h1:digs a=true) (h2:a.length=0∨a.length=2∨a.length=5):rdShape (body k l a) (wOf k) a.length=((outK k l,outT k l,a),0):=by
 have hl:=sym_len h;unfold rdShape;have e1:(body k l a).take (wOf k)=sym k l:=by unfold body;split;(·rw[<-hl,E5]);·rw[G1,take_app _ _ _ hl.symm]
 rw[e1,rdSym_sym h,D0 L0];by_cases h0:a.length=0;·rw[G0 h0,V2 h0]
 ·rw[D0 h0];have h3:a.length=2∨a.length=5:=C0;have e2:(body k l a).drop ((body k l a).length-wAdd a.length)=addn a:=(by unfold body;rw[D0 h0];exact drop_app _ _ _ (by rw[@O0 _ (sym k l++lgt 9) _,addn_len h1 h3];omega));rw[e2,rdAdd_addn h1 h3,D0 L0]
theorem fits_body {k:Int} {l a:List UInt8} (h:full k l=0) (h1:digs a=true) (h2:a.length=0∨a.length=2∨a.length=5):fits (body k l a) (wOf k) a.length=true:=by
 have hl:=sym_len h;unfold fits body;by_cases h0:a.length=0;·rw[G0 h0,G0 h0,hl];simp
 ·have h3:a.length=2∨a.length=5:=C0;rw[D0 h0,D0 h0];simp only[O0,hl,lgt_len,addn_len h1 h3];rw[G1,drop_app _ _ _ hl.symm,take_app _ _ _ (by rw[lgt_len];omega)];simp[lgt];omega
theorem body_len {k:Int} {l a:List UInt8} (h:full k l=0) (h1:digs a=true) (h2:a.length=0∨a.length=2∨a.length=5):(body k l a).length=wOf k+(if a.length=0 then 0 else 9+wAdd a.length):=by
 have hl:=sym_len h;unfold body;by_cases h0:a.length=0;·rw[G0 h0,G0 h0,hl];rfl
 ·have h3:a.length=2∨a.length=5:=C0;rw[D0 h0,D0 h0];simp only[O0,hl,lgt_len,addn_len h1 h3];omega
theorem fits_len {s:List Bool} {n a:Nat} (h:fits s n a=true):if a=0 then s.length=n else n+wAdd a+7<=s.length∧s.length<=n+wAdd a+12:=by
 unfold fits at h;split;·rename_i h0;rw[G0 h0]at h;simpa using h
 ·rename_i h0;rw[D0 h0]at h;simp at h;exact⟨h.1.1,h.1.2⟩
theorem no_fit {s:List Bool} {n a:Nat} (h:¬(if a=0 then s.length=n else n+wAdd a+7<=s.length∧s.length<=n+wAdd a+12)):fits s n a=false:=by
 cases e:fits s n a with
 |false=>rfl
 |true=>exact absurd (fits_len e) h
theorem no_95 {l a:List UInt8} (h:full 2 l=0) (h1:digs a=true) (h2:a.length=5):fits (body 2 l a) 95 2=false:=by
 have hl:=sym_len h
 obtain⟨e1,e2⟩:=setsAdd_ok (a:=a) (.inr h2)
 have hg:=drw_gap gA rfl a (setsAdd a) 1 h1 e1 (fun u hu=>by have:=e2 u hu;omega) C0
 have hb:=body_len h h1 (.inr (.inr h2))
 rw[h2]at hb
 have hb:(body 2 l a).length=123:=hb
 cases e:fits (body 2 l a) 95 2 with
 |false=>rfl
 |true=>unfold fits at e;rw[D0 J0,hb]at e;rw[N1,S1]at e;have e3:=e.2;have hw:wAdd 2=20:=rfl;rw[hw]at e3;have h97:(body 2 l a)[97]? =some true:=(by have:(body 2 l a).drop 96=(drw gA a (setsAdd a)).drop 16:=(by unfold body addn;rw[D0 C0,show sym 2 l++lgt 9++(sA++drw gA a (setsAdd a))=(sym 2 l++lgt 9++sA)++drw gA a (setsAdd a) by simp,show 96=(sym 2 l++lgt 9++sA).length+16 by simp only[O0,hl,lgt_len,sA_len];rfl,drop_plus]);have e4:((body 2 l a).drop 96).take 2=gA:=(by rw[this];exact hg);have e5:(((body 2 l a).drop 96).take 2)[1]? =some true:=(by rw[e4];rfl);rw[PI C0,YJ]at e5;exact e5);have hm:true∈((body 2 l a).drop 95).take (123-95-20):=(by refine I1 (i:=2) ?_;rw[PI C0,YJ];exact h97);have:=e3 true hm;cases this
theorem decF_step {s:List Bool} {e:Int} {n a:Nat} {l:List (Nat×Nat)} (h:fits s n a=false):decF s e ((n,a)::l)=decF s e l:=by rw[decF,G0 h]
theorem decF_here {s:List Bool} {e:Int} {n a:Nat} {l:List (Nat×Nat)} {r:Int×List UInt8×List UInt8} (h:fits s n a=true) (h1:rdShape s n a=(r,0)):decF s e ((n,a)::l)=(r,0):=by rw[decF,D0 (by simp[h]),h1];simp
theorem dec_body {k:Int} {l a:List UInt8} (h:full k l=0) (h1:digs a=true) (h2:a.length=0∨a.length=2∨a.length=5):decF (body k l a) 7 shapes=((outK k l,outT k l,a),0):=by
 have hb:=body_len h h1 h2;have hf:=fits_body h h1 h2;have hr:=rdShape_body h h1 h2;have step:∀(n b:Nat) (r:List (Nat×Nat)),¬(if b=0 then(body k l a).length=n else n+wAdd b+7<=(body k l a).length∧(body k l a).length<=n+wAdd b+12)->decF (body k l a) 7 ((n,b)::r)=decF (body k l a) 7 r:=
  fun n b r hh=>decF_step (no_fit hh)
 unfold shapes;rcases kinds (full_ok h).1 with rfl|rfl|rfl|rfl;·have hw:wOf 1=95:=rfl;rw[hw]at hb hf hr;rcases h2 with h2|h2|h2<;>rw[h2]at hb hf hr;(·exact B7);(·have hb:(body 1 l a).length=124:=hb;rw[step 95 0 _ J2];exact B7);·have hb:(body 1 l a).length=151:=hb;exact qP
 ·have hw:wOf 2=67:=rfl;rw[hw]at hb hf hr;rcases h2 with h2|h2|h2;(·rw[h2]at hb hf hr;have hb:(body 2 l a).length=67:=hb;rw[step 95 0 _ J2,step 95 2 _ J2,step 95 5 _ J2];exact B7);(·rw[h2]at hb hf hr;have hb:(body 2 l a).length=96:=hb;rw[step 95 0 _ J2,step 95 2 _ J2,step 95 5 _ J2,step 67 0 _ J2];exact B7);·have h95:=no_95 h h1 h2;rw[h2]at hb hf hr;have hb:(body 2 l a).length=123:=hb;rw[step 95 0 _ J2,decF_step h95,step 95 5 _ J2,step 67 0 _ J2,step 67 2 _ J2];exact B7
 ·have hw:wOf 3=95:=rfl;rw[hw]at hb hf hr;rcases h2 with h2|h2|h2<;>rw[h2]at hb hf hr;(·exact B7);(·have hb:(body 3 l a).length=124:=hb;rw[step 95 0 _ J2];exact B7);·have hb:(body 3 l a).length=151:=hb;exact qP
 ·have hw:wOf 4=51:=rfl;rw[hw]at hb hf hr;rcases h2 with h2|h2|h2<;>rw[h2]at hb hf hr;(·have hb:(body 4 l a).length=51:=hb;rw[step 95 0 _ J2,step 95 2 _ J2,step 95 5 _ J2,step 67 0 _ J2,step 67 2 _ J2,step 67 5 _ J2];exact B7);(·have hb:(body 4 l a).length=80:=hb;rw[step 95 0 _ J2,step 95 2 _ J2,step 95 5 _ J2,step 67 0 _ J2,step 67 2 _ J2,step 67 5 _ J2,step 51 0 _ J2];exact B7);·have hb:(body 4 l a).length=107:=hb;rw[step 95 0 _ J2,step 95 2 _ J2,step 95 5 _ J2,step 67 0 _ J2,step 67 2 _ J2,step 67 5 _ J2,step 51 0 _ J2,step 51 2 _ J2];exact B7
theorem body_ends {k:Int} {l a:List UInt8} (h1:digs a=true) (h2:a.length=0∨a.length=2∨a.length=5):(body k l a).head? =some true∧(body k l a).getLast? =some true:=by
 unfold body;by_cases h0:a.length=0;·rw[G0 h0];exact⟨sym_head k l,sym_last k l⟩
 ·rw[D0 h0];exact⟨head_app (head_app (sym_head k l)),last_app (addn_last h1 C0)⟩
theorem dec_enc {k:Int} {l a:List UInt8} (h:(enc k l a).2=0) (L R:Nat) (hL:L<=1000) (hR:R<=1000):dec (lgt L++(enc k l a).1++lgt R)=((outK k l,outT k l,a),0):=by
 obtain⟨h1,h2,h3,h4⟩:=enc_body h;obtain⟨e1,e2⟩:=body_ends (k:=k) (l:=l) h2 h3;have hb:=body_len h1 h2 h3;have hq:7<=lq k∧lq k<=11:=by unfold lq;split<;>(try split)<;>omega
 have hr:7<=(if a.length=0 then rq k else 7)∧(if a.length=0 then rq k else 7)<=9:=by unfold rq;exact M5
 rw[h4,show lgt L++(lgt (lq k)++body k l a++lgt (if a.length=0 then rq k else 7))++lgt R=lgt (L+lq k)++body k l a++lgt ((if a.length=0 then rq k else 7)+R) by unfold lgt;simp only[G1,<-List.replicate_append_replicate]];have hw:wOf k<=95:=by unfold wOf;exact M5
 have hwa:wAdd a.length<=47:=by unfold wAdd;exact M5
 have hbl:(body k l a).length<=200:=by rw[hb];exact L6
 rw[dec_mid _ _ _ C0 e1 e2 C0];exact dec_body h1 h2 h3
end Ea
end
end Go.Proofs.YtbngggoccndefaaGreatDoor
