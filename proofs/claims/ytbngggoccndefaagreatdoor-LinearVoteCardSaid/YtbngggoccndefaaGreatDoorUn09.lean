/-
  Laid.
-/
import Derived.Test.YtbngggoccndefaaGreatDoorUn08
set_option maxHeartbeats 16000000
set_option maxRecDepth 100000
set_option linter.all false
namespace Go.Proofs.YtbngggoccndefaaGreatDoor
open Go.Proofs.Tryz
section
open Go.RowKit
theorem cG:(prog.info? 92).map (·.size)=some 2:=B1
theorem Zk7:liesAt prog prog.depth 92 (2/prog.cellsOf 92) 0 92 1=true:=B1
theorem ZeQ (b:Nat) (w:World) (h0:w.cell? ⟨b,0,none⟩=some (.pointer (some ⟨b,0,none⟩))):
 Calls prog 101 #[.pointer (some ⟨b,0,none⟩)] w fun e w'=>e=.returned (.tuple #[])∧w'=w:=by
 obtain⟨j,hj,_⟩:=VO.1 cG
 go_enter func101,ntmps101
 go_wp2
 rw[Lib.run_neq_ptr_same w _ underlying89 hj]
 go_wp2
 go_end0
 exact⟨rfl,rfl⟩
theorem Zek (b:Nat) (w:World) (h0:w.cell? ⟨b,0,none⟩=some (.pointer none)) (hsh:w.shape? b=some (92,2)) (hfz:w.frozen? ⟨b,0,none⟩=false):
 Calls prog 101 #[.pointer (some ⟨b,0,none⟩)] w fun e w'=>e=.returned (.tuple #[])∧w'=w.setCell ⟨b,0,none⟩ (.pointer (some ⟨b,0,none⟩)):=by
 obtain⟨j,hj,hjs⟩:=VO.1 cG
 go_enter func101,ntmps101
 go_wp2
 rw[Lib.run_to_unsafe w ⟨b,0,none⟩ underlying89 underlying202 hj (by rw[hjs];decide) hsh (Nat.zero_lt_succ 1)]
 simp only[Result.andThen]
 rw[CI]
 go_wp2
 rw[run_callFunc_extern func163 G0 G0 G0 (e:=Extern.AbiNoEscape.same) G0]
 rw[Lib.run_noEscape]
 simp only[Result.andThen]
 rw[CI]
 go_wp2
 rw[Lib.run_from_unsafe w ⟨b,0,none⟩ underlying202 underlying89 hj hsh Zk7]
 simp only[Result.andThen]
 rw[CI]
 go_wp2
 go_end0
 exact⟨rfl,rfl⟩
theorem ZfE (B b:Nat) (bs:List Value) (w:World) (h:Lib.IsBuilder 92 5 B b bs w):
 Calls prog 101 #[.pointer (some ⟨b,0,none⟩)] w fun e w'=>e=.returned (.tuple #[])∧(Lib.BuilderAt 92 5 B b (.pointer (some ⟨b,0,none⟩)) bs w'∧Below B w w'):=by
 rcases h with h|h
 ·refine(Zek b w h.cell0 h.shape h.frozen0).mono ?_;rintro e w' ⟨rfl,rfl⟩;exact⟨rfl,h.used _,(XE B w).setCell (p:=⟨b,0,none⟩) h.1 _⟩
 ·refine(ZeQ b w h.cell0).mono ?_;rintro e w' ⟨rfl,rfl⟩;exact⟨rfl,h,XE B _⟩
theorem ZeL (B b:Nat) (bs:List Value) (s:ByteArray) (w:World) (h:Lib.IsBuilder 92 5 B b bs w) (hlen:bs.length+s.size<=140737488355328) (hBw:B<=w.heap.size):
 Calls prog 59 #[.pointer (some ⟨b,0,none⟩),.string s] w fun e w'=>e=.returned (.tuple #[.int .i64 s.size,.nilIface])∧(Lib.IsBuilder 92 5 B b (bs++Lib.strCells s) w'∧Below B w w'):=by
 obtain⟨i0,hi,hz0,hz1,hz2⟩:=V5 VI
 go_enter func59,ntmps59
 go_wp2_with fail
 refine(ZfE B b bs _ h).mono ?_
 rintro e w1 ⟨rfl,h1,hb1⟩
 obtain⟨hB,v,hbk,hown,hne⟩:=h1
 have c0:w1.cell? ⟨b,0,none⟩=some (.pointer (some ⟨b,0,none⟩)):=by rw[LT hbk];rfl
 have c1:w1.cell? ⟨b,1,none⟩=some v:=by rw[LT hbk];rfl
 go_wp2_with (at_builtin;refine Lib.wpList_append_own_string _ rfl _ _ 90 9 rfl B 5 i0 underlying90 underlying9 hi hz0 hz1 hz2 _ _ _ rfl hown s rfl ?c3 ?c4 ?c5 ?_)
 case c3=>exact V7
 case c4=>omega
 case c5=>have:=hb1.size;omega
 intro v' w2 hown' hgrow _
 have hlt:b<w1.heap.size:=by rcases P4 b w1.heap.size with h'|h';(·exact h');·simp[YC h']at hbk
 have hb2:w2.heap[b]? =some (.cells #[.pointer (some ⟨b,0,none⟩),v] 92 (0,0)):=by rw[hgrow.block b hlt (fun e=>hne e.symm)];exact hbk
 have d0:w2.cell? ⟨b,0,none⟩=some (.pointer (some ⟨b,0,none⟩)):=by rw[LT hb2];rfl
 have d1:w2.cell? ⟨b,1,none⟩=some v:=by rw[LT hb2];rfl
 have f1:w2.frozen? ⟨b,1,none⟩=false:=CK hb2 1
 obtain⟨ao,n',cap,rfl⟩:∃ao n' cap,v'=.slice ao n' cap:=by rcases hown'.2 with⟨hv,_⟩|⟨g,cap,cur,hv,_⟩;(·exact⟨_,_,_,hv⟩);·exact⟨_,_,_,hv⟩
 go_wp2
 go_ret2
 refine⟨rfl,.inr ?_,?_⟩
 ·exact Lib.BuilderAt.put (T:=92) (e:=5) hB hb2 (bs':=bs++Lib.strCells s) (by simpa[Lib.strCells_length]using hown') I0
 ·exact(hb1.grown hgrow (by have:=hb1.size;omega) (fun k hk=>(hown.lt k hk).1)).setCell (p:=⟨b,1,none⟩) hB _
theorem Zmt {B b:Nat} {bs:List Value} {w w':World} (h:Lib.IsBuilder 92 5 B b bs w) (hx:Ext w w'):Lib.IsBuilder 92 5 B b bs w':=by
 have key:∀p,Lib.BuilderAt 92 5 B b p bs w->Lib.BuilderAt 92 5 B b p bs w':=by
  rintro p ⟨hB,v,hb,hown,hne⟩
  have hlt:b<w.heap.size:=by rcases P4 b w.heap.size with h'|h';(·exact h');·simp[YC h']at hb
  refine⟨hB,v,by rw[hx.block b hlt];exact hb,hown.kept hx.asGrown ?_,hne⟩
  cases hv:v.ownBlock with
  |none=>exact .inl rfl
  |some k=>exact .inr L0
 exact h.elim (fun x=>.inl (key _ x)) (fun x=>.inr (key _ x))
theorem ZlC (W:World) (g:Nat) (x y:Int) (hg:g=W.heap.size):
 (convert 90 9 (.slice (some ⟨g,0,none⟩) 2 2)).run prog (W.alloc (.cells #[.int .u8 x,.int .u8 y] 5))=.ok (.string (strOfNums [x,y])) (W.alloc (.cells #[.int .u8 x,.int .u8 y] 5)):=by
 subst hg
 refine run_convert_bytes_arg (P:=prog) _ 90 5 underlying90 underlying5 W.heap.size 0 2 2 [x,y] rfl (fun i hi=> ?_) 9 underlying9
 match i,hi with
 |0,_=>simp[go_sem]
 |1,_=>simp[go_sem]
theorem cH (W:World) (g:Nat) (x:Int) (hg:g=W.heap.size):
 (convert 90 9 (.slice (some ⟨g,0,none⟩) 1 1)).run prog (W.alloc (.cells #[.int .u8 x] 5))=.ok (.string (strOfNums [x])) (W.alloc (.cells #[.int .u8 x] 5)):=by
 subst hg
 refine run_convert_bytes_arg (P:=prog) _ 90 5 underlying90 underlying5 W.heap.size 0 1 1 [x] rfl (fun i hi=> ?_) 9 underlying9
 match i,hi with
 |0,_=>simp[go_sem]
theorem YX (c:UInt8):UInt8.ofNat c.toNat=c:=by simp
end
section
open Go.RowKit Go.WideMaps Go.Maps
def tab:Nat->DataW Unit
 |0=>.map []
 |k+1=>(tab k).put (.string (Tw.rep (UInt8.ofNat k))) (.lit (.int .u8 (k:Int)))
end
section
open Go.RowKit
theorem ZgP (kind:Int) (v:Value) (ws:List Int) (check:Bool) (w:World) (hv:Sl w v (ws.map encI)) (hl:ws.length<=1000000):
 Calls prog 21 #[.int .i64 kind,v,.bool check] w (DecR (Tw.dec kind ws check) w):=by
 unfold Tw.dec
 split
 ·rename_i h;subst h;exact CH 0 5 v ws check w hv hl Zm2
 split
 ·rename_i h;subst h;exact CH 1 6 v ws check w hv hl Zm3
 split
 ·rename_i h;subst h;exact CH 2 7 v ws check w hv hl ZkP
 rename_i h5 h6 h7
 have HF:=A0 (fun w=>ZkR kind w h5 h6 h7)
 clear h5 h6 h7
 obtain⟨a,c,rfl⟩:=hv.form
 clear hv
 go_enter func21,ntmps21
 go_wp2_with fail
 refine(HF.out _).mono ?_
 rintro e w1 ⟨rfl,hx1⟩
 go_wp2
 go_ret2
 exact⟨rfl,hx1.alloc _⟩
end
end Go.Proofs.YtbngggoccndefaaGreatDoor
section
namespace Go.Proofs.YtbngggoccndefaaGreatDoor
open Go.Proofs.Tryz
open Go.RowKit
def relUpon (P:Program) (K:Value->World->Prop):Result Next->Prop
 | .ok (.value v) w'=>K v w'
 | .ok .skip w'=>K undef w'
 | .ok (.enter f args) w'=>Calls P f args w' fun e w''=>∃v,e=.returned v∧K v w''
 |_=>False
def ZA (P:Program) (o:Oper) (a:Act) (w:World) (K:Value->World->Prop):Prop:=relUpon P K ((execOp a.eval o).run P w)
theorem NH {P:Program} {o:Oper} {a:Act} {w:World} {K:Value->World->Prop} {K':Act->World->Prop} {Q:Exit->Act->World->Prop}
 (h:ZA P o a w K) (hk:∀v w',K v w'->K' (a.put o.dst v) w'):o.wp P a w K' Q:=by
 unfold ZA at h
 unfold Oper.wp
 generalize(execOp a.eval o).run P w=r at*
 cases r with
 |ok n w'=>exact vL
 |halt x w'=>simp only[relUpon]at h
def fillA (V:Nat->Value) (ds:List Nat) (a:Act):Act:=ds.foldl (fun a d=>a.put (some d) (V d)) a
theorem vM (a:Act) (d:Nat):a.put (some d) (a.tmps.getD d undef)=a:=by
 cases a with
 |mk t df=>exact vN
theorem vO (a:Act) (d:Nat) (u v:Value):(a.put (some d) u).put (some d) v=a.put (some d) v:=by unfold Act.put;simp[vP]
theorem NI (ds:List Nat):∀a:Act,fillA (fun d=>a.tmps.getD d undef) ds a=a:=vQ
theorem vR (V:Nat->Value) (d:Nat) (v:Value):∀(ds:List Nat) (a:Act),d∉ds->(fillA V ds a).put (some d) v=fillA (fun x=>if x=d then v else V x) ds (a.put (some d) v):=by
 intro ds
 induction ds with
 |nil=>intro a _;rfl
 |cons c ds ih=>exact vS
theorem FC (V:Nat->Value) (d:Nat) (v:Value):∀(ds:List Nat) (a:Act),ds.Nodup->d∈ds->(fillA V ds a).put (some d) v=fillA (fun x=>if x=d then v else V x) ds a:=by
 intro ds
 induction ds with
 |nil=>intro a _ h;cases h
 |cons c ds ih=>exact vT
def ZP (ops:Array Oper) (k i:Nat):Bool:=match ops[k]? with
 |some o=>o.after.any fun e=>Region.binds .any e&&e.on==i
 |none=>false
def Zt (n m:Nat):Array Bool:=(List.replicate m true++List.replicate (n-m) false).toArray
def cnt (n:Nat) (l:Array Bool):Nat:=(List.range n).countP fun i=> !l.getD i true
def WN (ops:Array Oper) (m:Nat) (ds:List Nat) (deps:List (List Nat)):Bool:=
 decide (m<ops.size)&&decide (ds.length=m)&&decide ds.Nodup&&
 ((
  List.range m).all fun i=>match ops[i]? with
  |some o=>o.guard.isNone&&o.dst==some (ds.getD i 0)&&(deps.getD i []).all fun j=>decide (j<i)&&ZP ops i j
  |none=>false)&&
 ((
  List.range ops.size).all fun i=>match ops[i]? with
  |some o=>o.after.all fun e=> !Region.binds .any e || decide (e.on<i)
  |none=>false)&&
 ((List.range m).all fun i=>(List.range (m+1)).any fun k=>decide (i<k)&&ZP ops k i)&&
 ((List.range ops.size).all fun i=>decide (i<=m) || (List.range ops.size).any fun k=>decide (m<=k)&&ZP ops i k)&&
 decide (cnt ops.size (Zt ops.size m)=ops.size-m)&&decide (cnt ops.size (Array.replicate ops.size false)=ops.size)
theorem vU {l:List Nat} (hn:l.Nodup) {p q:Nat->Bool} {i:Nat} (hi:i∈l) (hp:p i=true) (hq:q i=false) (h:∀j,j≠i->q j=p j):l.countP q+1=l.countP p:=by
 induction l with
 |nil=>cases hi
 |cons c l ih=>exact vV
theorem NJ {n:Nat} {l:Array Bool} {i:Nat} (hs:l.size=n) (h:l.getD i true=false):cnt n (l.setIfInBounds i true)+1=cnt n l:=vW
theorem VZ {ops:Array Oper} {k i:Nat} {o:Oper} (ho:ops[k]? =some o) (h:ZP ops k i=true):∃e∈o.after,Region.binds .any e=true∧e.on=i:=vX
section
variable {P:Program} {ops:Array Oper} {Q:Exit->Act->World->Prop} {W:World} {a:Act} {m:Nat} {ds:List Nat} {deps:List (List Nat)} {R:Nat->Value->World->Prop}
structure cI (ops:Array Oper) (W:World) (a:Act) (m:Nat) (ds:List Nat) (R:Nat->Value->World->Prop) (listed:Array Bool) (b:Act) (w:World) (V:Nat->Value):Prop where
 size:listed.size=ops.size
 fill:b=fillA V ds a
 ext:Ext W w
 tail:∀i,i<ops.size->listed.getD i false=true->i<m
 fact:∀i,i<m->listed.getD i false=true->R i (V (ds.getD i 0)) w
 down:∀k i,k<ops.size->listed.getD k false=true->ZP ops k i=true->listed.getD i false=true
theorem NK {l:Array Bool} {i:Nat} (h:i<l.size):l.getD i true=l.getD i false:=by simp[h]
theorem Zk0 (hchk:WN ops m ds deps=true)
 (hst:∀i v w w',R i v w->Ext w w'->R i v w')
 (hstep:∀i o,i<m->ops[i]? =some o->∀V w,Ext W w->(∀j∈deps.getD i [],R j (V (ds.getD j 0)) w)->ZA P o (fillA V ds a) w fun v w'=>Ext w w'∧R i v w')
 (hend:∀V w,Ext W w->(∀j,j<m->R j (V (ds.getD j 0)) w)->wpAny P .any ops Q (ops.size-m) (Zt ops.size m) (fillA V ds a) w):
 ∀(fuel:Nat) (listed:Array Bool) (b:Act) (w:World) (V:Nat->Value),cnt ops.size listed=fuel->cI ops W a m ds R listed b w V->wpAny P .any ops Q fuel listed b w:=by
 simp only[WN,M2,Y1]at hchk
 obtain⟨⟨⟨⟨⟨⟨⟨⟨c1,c2⟩,c3⟩,c4⟩,c5⟩,c6⟩,c7⟩,c8⟩,c9⟩:=hchk
 rw[U1]at c4 c5 c6 c7
 intro fuel
 induction fuel with
 |zero=>exact CQ
 |succ fuel ih=>
  intro listed b w V hc I;have hall:m∈Region.ready .any ops listed->listed=Zt ops.size m:=fun hr=>by
   obtain⟨hmf,o,ho,hdep⟩:=TD.1 hr;have hl:∀d i,i<m->m-i=d->listed.getD i false=true:=by
    intro d
    induction d using Nat.strongRecOn with
    |_ d ihd=>intro i hi hd;have h6:=c6 i (M4.2 hi);rw[YW]at h6;obtain⟨k,hk,hik⟩:=h6;rw[M4]at hk;rw[M2,Y1]at hik;by_cases hkm:k=m;(·exact cJ);·have hk':listed.getD k false=true:=ihd (m-k) B0 k B0 rfl;exact I.down k i B0 hk' hik.2
   apply UT;(·rw[I.size];simp[Zt];omega)
   ·intro i h1 h2;have h1':i<ops.size:=LU;by_cases him:i<m;(·have:=hl _ i him rfl;simp[h1]at this;simp[Zt,him,this])
    ·have:listed.getD i false=false:=by
      cases h:listed.getD i false with
      |false=>rfl
      |true=>exact absurd (I.tail i h1' h) him
     exact cL
  have hmf:listed.getD m false=false:=by
   cases h:listed.getD m false with
   |false=>rfl
   |true=>exact absurd (I.tail m c1 h) (LV _)
  have hsome:Region.ready .any ops listed≠ []:=Q0;by_cases hmr:m∈Region.ready .any ops listed;(·have he:=hall hmr;exact cM);exact QJ
theorem Zff {id:Nat} (hm:P.follows .mixedOrders=true) (hchk:WN ops m ds deps=true)
 (hst:∀i v w w',R i v w->Ext w w'->R i v w')
 (hstep:∀i o,i<m->ops[i]? =some o->∀V w,Ext W w->(∀j∈deps.getD i [],R j (V (ds.getD j 0)) w)->ZA P o (fillA V ds a) w fun v w'=>Ext w w'∧R i v w')
 (hend:∀V w,Ext W w->(∀j,j<m->R j (V (ds.getD j 0)) w)->wpAny P .any ops Q (ops.size-m) (Zt ops.size m) (fillA V ds a) w):
 (Code.region id ops true).wp P Q a W:=by
 refine wp_region_any hm ?_
 have hc:cnt ops.size (Array.replicate ops.size false)=ops.size:=by simp only[WN,M2,Y1]at hchk;exact hchk.2
 have hf:∀i,(Array.replicate ops.size false).getD i false=false:=fun i=>CR
 refine Zk0 hchk hst hstep hend _ _ _ _ (fun d=>a.tmps.getD d undef) hc ⟨by simp,(NI ds a).symm,(Ext.refl W).drew,?_,?_,?_⟩
 ·exact TE
 ·exact TE
 ·exact CS
end
abbrev Rel:=Value->World->Prop
def eqv (t:Value):Rel:=fun v _=>v=t
def Rel.Stable (R:Rel):Prop:=∀v w w',R v w->Ext w w'->R v w'
theorem Zg (t:Value):Rel.Stable (eqv t):=fun _ _ _ h _=>h
def Z6 (acc:List Rel) (k:Nat) (ds:List Nat) (V:Nat->Value) (w:World):List Nat->Prop
 | []=>True
 |j::l=>(acc.getD (k-1-j) fun _ _=>True) (V (ds.getD j 0)) w∧Z6 acc k ds V w l
theorem SX {acc:List Rel} {k:Nat} {ds:List Nat} {V:Nat->Value} {w:World} {l:List Nat}:Z6 acc k ds V w l↔∀j∈l,(acc.getD (k-1-j) fun _ _=>True) (V (ds.getD j 0)) w:=by
 induction l with
 |nil=>simp[Z6]
 |cons j l ih=>simp[Z6,ih]
def YY (P:Program) (W:World) (a:Act) (ds:List Nat) (deps:List (List Nat)) (fin:List Rel->Prop):List Oper->Nat->List Rel->Prop
 | [],_,acc=>fin acc
 |o::rest,k,acc=>∃R:Rel,R.Stable∧(∀V w,Ext W w->Z6 acc k ds V w (deps.getD k [])->ZA P o (fillA V ds a) w fun v w'=>Ext w w'∧R v w')∧YY P W a ds deps fin rest (k+1) (R::acc)
theorem CV {P:Program} {W:World} {a:Act} {ds:List Nat} {deps:List (List Nat)} {fin:List Rel->Prop}:∀(l:List Oper) (k:Nat) (acc:List Rel),acc.length=k->(∀R∈acc,Rel.Stable R)->YY P W a ds deps fin l k acc->
 ∃all:List Rel,all.length=k+l.length∧(∀i,i<k->all[i]? =acc.reverse[i]?)∧(∀R∈all,Rel.Stable R)∧fin all.reverse∧
  ∀i o,l[i]? =some o->∀V w,Ext W w->(∀j∈deps.getD (k+i) [],j<k+i∧(all.getD j fun _ _=>True) (V (ds.getD j 0)) w)->ZA P o (fillA V ds a) w fun v w'=>Ext w w'∧(all.getD (k+i) fun _ _=>True) v w'
 | [],k,acc,hk,hs,h=>⟨acc.reverse,by simpa using hk,fun _ _=>rfl,fun R hR=>hs R (SR.1 hR),by rw[NC];exact h,fun i o hi=>by simp at hi⟩
 |o::rest,k,acc,hk,hs,h=>by
  obtain⟨R,hR,h1,h2⟩:=h;obtain⟨all,a1,a2,a3,a4,a5⟩:=CV rest (k+1) (R::acc) (by rw[D1,hk]) (fun X hX=>by rcases V3.1 hX with h|h;(·rw[h];exact hR);·exact hs X h) h2;rw[Y8]at a2;have hlr:acc.reverse.length=k:=(by rw[D4,hk]);refine⟨all,by rw[a1,D1];omega,fun i hi=> ?_,a3,a4,fun i o' hi V w hx hf=> ?_⟩;(·exact cN)
  ·cases i with
   |zero=>simp only[B3,I2]at hi;subst hi;have hget:all[k]? =some R:=cO;rw[Y4]at hf;have:=h1 V w hx (SX.2 fun j hj=>by obtain⟨hjk,hh⟩:=hf j hj;rw[U0,a2 j B0,O7 B0,YZ B0,hk]at hh;rw[U0];exact hh);exact cP
   |succ i=>rw[D5]at hi;have:=a5 i o' hi V w hx cQ;rw[show k+1+i=k+(i+1) by omega]at this;exact F3
theorem Zh {P:Program} {Q:Exit->Act->World->Prop} {W:World} {a:Act} {id:Nat} {ops:Array Oper} (m n:Nat) (hn:ops.size=m+n) (ds:List Nat) (deps:List (List Nat)) (hm:P.follows .mixedOrders=true) (hchk:WN ops m ds deps=true)
 (h:YY P W a ds deps (fun acc=>∀V w,Ext W w->Z6 acc m ds V w (List.range m)->wpAny P .any ops Q n (Zt (m+n) m) (fillA V ds a) w) (ops.toList.take m) 0 []):
 (Code.region id ops true).wp P Q a W:=by
 obtain⟨all,a1,_,a3,a4,a5⟩:=CV _ 0 [] rfl (fun R h=>by cases h) h
 have hmz:m<ops.size:=by simp only[WN,M2,Y1]at hchk;exact hchk.1.1.1.1.1.1.1.1
 have hlen:all.length=m:=CW
 have hdm:∀i,i<m->∀j∈deps.getD i [],j<i:=by
  simp only[WN,M2,Y1]at hchk
  have c4:=hchk.1.1.1.1.1.2
  rw[U1]at c4
  intro i hi j hj
  have h4:=c4 i (M4.2 hi)
  cases ho:ops[i]? with
  |none=>rw[ho]at h4;cases h4
  |some o=>exact CX
 refine Zff (R:=fun i=>all.getD i fun _ _=>True) (m:=m) (ds:=ds) (deps:=deps) hm hchk ?_ ?_ ?_
 ·intro i v w w' h hx
  rw[U0]at h⊢
  cases hi:all[i]? with
  |none=>rw[hi]at h;trivial
  |some R=>exact cR
 ·exact cT
 ·intro V w hx hf;have h0:=a4 V w hx cU;rw[hn,show m+n-m=n by omega];exact h0
theorem Za {P:Program} {W:World} {a:Act} {ds:List Nat} {deps:List (List Nat)} {fin:List Rel->Prop} {o:Oper} {rest:List Oper} {k:Nat} {acc:List Rel} {t:Value}
 (h1:∀V w,Ext W w->Z6 acc k ds V w (deps.getD k [])->ZA P o (fillA V ds a) w fun v w'=>Ext w w'∧v=t) (h2:YY P W a ds deps fin rest (k+1) (eqv t::acc)):YY P W a ds deps fin (o::rest) k acc:=
 ⟨eqv t,Zg t,h1,h2⟩
theorem Zc {P:Program} {W:World} {a:Act} {ds:List Nat} {deps:List (List Nat)} {fin:List Rel->Prop} {o:Oper} {rest:List Oper} {k:Nat} {acc:List Rel} (R:Rel) (hR:R.Stable)
 (h1:∀V w,Ext W w->Z6 acc k ds V w (deps.getD k [])->ZA P o (fillA V ds a) w fun v w'=>Ext w w'∧R v w') (h2:YY P W a ds deps fin rest (k+1) (R::acc)):YY P W a ds deps fin (o::rest) k acc:=
 ⟨R,hR,h1,h2⟩
theorem NM (V:Nat->Value) (d:Nat):∀(ds:List Nat) (a:Act),ds.contains d=false->(fillA V ds a).tmps.getD d undef=a.tmps.getD d undef:=by
 intro ds
 induction ds with
 |nil=>intro a _;rfl
 |cons c ds ih=>exact vY
theorem vZ (V:Nat->Value) (d:Nat):∀(ds:List Nat) (a:Act),ds.contains d=true->d<a.tmps.size->(fillA V ds a).tmps.getD d undef=V d:=by
 intro ds
 induction ds with
 |nil=>intro a h;cases h
 |cons c ds ih=>exact kA
theorem evalHit {A:Act} {V:Nat->Value} {ds:List Nat} {a:Act} (hA:A=fillA V ds a) (d:Nat) (h:(ds.contains d&&decide (d<a.tmps.size))=true):A.eval (.tmp d)=V d:=kB
theorem evalMiss {A:Act} {V:Nat->Value} {ds:List Nat} {a:Act} (hA:A=fillA V ds a) (d:Nat) (h:ds.contains d=false):A.eval (.tmp d)=a.eval (.tmp d):=by subst hA;exact NM V d ds a h
theorem relAt_ops {P:Program} {o:Oper} {V:Nat->Value} {ds:List Nat} {a:Act} {w:World} {K:Value->World->Prop}
 (h:∀(A:Act) (ρ:Operand->Value),A=fillA V ds a->ρ=A.eval->(∀v,ρ (.const v)=v)->(∀f,ρ (.func f)=.func (.func f) #[] #[])->relUpon P K ((execOp ρ o).run P w)):ZA P o (fillA V ds a) w K:=
 h _ _ rfl rfl (fun _=>rfl) (fun _=>rfl)
theorem relUpon_move {P:Program} {o:Oper} {ρ:Operand->Value} {w:World} {K:Value->World->Prop} {x:Operand} (h:o.op=.move x∨o.op=.assign x:=by first|exact .inl rfl|exact .inr rfl) (hk:K (ρ x) w):relUpon P K ((execOp ρ o).run P w):=FD
theorem ZiN {P:Program} {o:Oper} {a:Act} {w:World} {K:Value->World->Prop} {x:Operand} (h:o.op=.move x∨o.op=.assign x:=by first|exact .inl rfl|exact .inr rfl) (hk:K (a.eval x) w):ZA P o a w K:=by unfold ZA;exact FD
theorem Zjd {P:Program} {ops:Array Oper} {Q:Exit->Act->World->Prop} {fuel:Nat} {listed:Array Bool} {a:Act} {w:World} (i:Nat) (o:Oper) (hr:Region.ready .any ops listed=[i]) (ho:ops[i]? =some o) (hg:o.guard=none)
 (h:o.wp P a w (wpAny P .any ops Q fuel (listed.setIfInBounds i true)) Q):wpAny P .any ops Q (fuel+1) listed a w:=by
 refine⟨fun h=>(by rw[hr]at h;cases h),fun j hj=> ?_⟩
 rw[hr,U3]at hj
 subst hj
 unfold wpOp
 rw[ho]
 simp only[show Region.wanted o (yielded ops a.tmps)=true by simp[Region.wanted,hg],W4]
 exact .inl h
theorem ZhD {P:Program} {ops:Array Oper} {Q:Exit->Act->World->Prop} {listed:Array Bool} {V:Nat->Value} {ds:List Nat} {a:Act} {w:World} (i d d2:Nat) (p:Oper) (hr:Region.ready .any ops listed=[i]) (hp:ops[i]? =some p) (hgp:p.guard=none)
 (hpx:p.op=.move (.tmp d)∨p.op=.assign (.tmp d)) (hr3:Region.ready .any ops (listed.setIfInBounds i true)=[]) (hpd:p.dst=some d2) (hsz:(ds.contains d&&decide (d<a.tmps.size))=true)
 (h:Q .normal ((fillA V ds a).put (some d2) (V d)) w):wpAny P .any ops Q 1 listed (fillA V ds a) w:=by
 refine Zjd (fuel:=0) i p hr hp hgp ?_
 refine NH (K:=fun u x=>u=V d∧x=w) (ZiN (x:=.tmp d) hpx ⟨evalHit rfl d hsz,rfl⟩) (fun u x ⟨hv,hu⟩=>⟨hr3,?_⟩)
 subst hv;subst hu
 rw[hpd];exact h
end Go.Proofs.YtbngggoccndefaaGreatDoor
namespace Go.Proofs.YtbngggoccndefaaGreatDoor
open Go.Proofs.Tryz
open Go.RowKit
def Z9 (n m l:Nat):Array Bool:=(Zt n m).setIfInBounds l false
def ZJ (ops:Array Oper) (m l:Nat) (ds:List Nat) (deps:List (List Nat)):Bool:=
 decide (m<ops.size)&&decide (ds.length=m)&&decide ds.Nodup&&
 ((
  List.range m).all fun i=>match ops[i]? with
  |some o=>o.guard.isNone&&o.dst==some (ds.getD i 0)&&(deps.getD i []).all fun j=>decide (j<i)&&ZP ops i j
  |none=>false)&&
 ((
  List.range ops.size).all fun i=>match ops[i]? with
  |some o=>o.after.all fun e=> !Region.binds .any e || decide (e.on<i)
  |none=>false)&&
 ((List.range m).all fun i=>i==l || (List.range (m+1)).any fun k=>decide (i<k)&&(k !=l)&&ZP ops k i)&&
 ((List.range ops.size).all fun i=>decide (i<=m) || (List.range ops.size).any fun k=>decide (m<=k)&&ZP ops i k)&&
 decide (cnt ops.size (Zt ops.size m)=ops.size-m)&&decide (cnt ops.size (Array.replicate ops.size false)=ops.size)&&decide (l<m)&&decide (cnt ops.size (Z9 ops.size m l)=ops.size-m+1)
section
variable {P:Program} {ops:Array Oper} {Q:Exit->Act->World->Prop} {W:World} {a:Act} {m l:Nat} {ds:List Nat} {deps:List (List Nat)} {R:Nat->Value->World->Prop}
theorem BA (hchk:ZJ ops m l ds deps=true)
 (hst:∀i v w w',R i v w->Ext w w'->R i v w')
 (hstep:∀i o,i<m->ops[i]? =some o->∀V w,Ext W w->(∀j∈deps.getD i [],R j (V (ds.getD j 0)) w)->ZA P o (fillA V ds a) w fun v w'=>Ext w w'∧R i v w')
 (hend:∀V w,Ext W w->(∀j,j<m->R j (V (ds.getD j 0)) w)->wpAny P .any ops Q (ops.size-m) (Zt ops.size m) (fillA V ds a) w)
 (hend2:∀V w,Ext W w->(∀j,j<m->j≠l->R j (V (ds.getD j 0)) w)->wpAny P .any ops Q (ops.size-m+1) (Z9 ops.size m l) (fillA V ds a) w):
 ∀(fuel:Nat) (listed:Array Bool) (b:Act) (w:World) (V:Nat->Value),cnt ops.size listed=fuel->cI ops W a m ds R listed b w V->wpAny P .any ops Q fuel listed b w:=by
 simp only[ZJ,M2,Y1]at hchk
 obtain⟨⟨⟨⟨⟨⟨⟨⟨⟨⟨c1,c2⟩,c3⟩,c4⟩,c5⟩,c6⟩,c7⟩,c8⟩,c9⟩,c10⟩,c11⟩:=hchk
 rw[U1]at c4 c5 c6 c7
 intro fuel
 induction fuel with
 |zero=>exact CQ
 |succ fuel ih=>
  intro listed b w V hc I;have hall:m∈Region.ready .any ops listed->listed=Zt ops.size m∨listed=Z9 ops.size m l:=fun hr=>by
   obtain⟨hmf,o,ho,hdep⟩:=TD.1 hr
   have hl:∀d i,i<m->i≠l->m-i=d->listed.getD i false=true:=by
    intro d
    induction d using Nat.strongRecOn with
    |_ d ihd=>exact cV
   have hrest:∀i,i<ops.size->¬i<m->listed.getD i false=false:=fun i h1' him=>by
    cases h:listed.getD i false with
    |false=>rfl
    |true=>exact absurd (I.tail i h1' h) him
   cases hll:listed.getD l false with
   |true=>exact cW
   |false=>right;apply UT;(·rw[I.size];simp[Z9,Zt];omega);·intro i h1 h2;have h1':i<ops.size:=LU;by_cases e:l=i;(·subst e;simp[h1]at hll;simp[Z9,hll]);·by_cases him:i<m;(·have:=hl _ i him (fun h=>e h.symm) rfl;simp[h1]at this;simp[Z9,Zt,BB,e,him,this]);·have:=hrest i h1' him;simp[h1]at this;simp[Z9,Zt,BB,e,BC,him,this]
  have hmf:listed.getD m false=false:=by
   cases h:listed.getD m false with
   |false=>rfl
   |true=>exact absurd (I.tail m c1 h) (LV _)
  have hsome:Region.ready .any ops listed≠ []:=Q0;by_cases hmr:m∈Region.ready .any ops listed;(·exact cX);exact QJ
theorem BD {id:Nat} (hm:P.follows .mixedOrders=true) (hchk:ZJ ops m l ds deps=true)
 (hst:∀i v w w',R i v w->Ext w w'->R i v w')
 (hstep:∀i o,i<m->ops[i]? =some o->∀V w,Ext W w->(∀j∈deps.getD i [],R j (V (ds.getD j 0)) w)->ZA P o (fillA V ds a) w fun v w'=>Ext w w'∧R i v w')
 (hend:∀V w,Ext W w->(∀j,j<m->R j (V (ds.getD j 0)) w)->wpAny P .any ops Q (ops.size-m) (Zt ops.size m) (fillA V ds a) w)
 (hend2:∀V w,Ext W w->(∀j,j<m->j≠l->R j (V (ds.getD j 0)) w)->wpAny P .any ops Q (ops.size-m+1) (Z9 ops.size m l) (fillA V ds a) w):
 (Code.region id ops true).wp P Q a W:=by
 refine wp_region_any hm ?_
 have hc:cnt ops.size (Array.replicate ops.size false)=ops.size:=cY
 have hf:∀i,(Array.replicate ops.size false).getD i false=false:=fun i=>CR
 refine BA hchk hst hstep hend hend2 _ _ _ _ (fun d=>a.tmps.getD d undef) hc ⟨by simp,(NI ds a).symm,(Ext.refl W).drew,?_,?_,?_⟩
 ·exact TE
 ·exact TE
 ·exact CS
end
theorem Zfg {P:Program} {Q:Exit->Act->World->Prop} {W:World} {a:Act} {id:Nat} {ops:Array Oper} (m n l:Nat) (hn:ops.size=m+n) (ds:List Nat) (deps:List (List Nat)) (hm:P.follows .mixedOrders=true) (hchk:ZJ ops m l ds deps=true)
 (h:YY P W a ds deps (fun acc=>(∀V w,Ext W w->Z6 acc m ds V w (List.range m)->wpAny P .any ops Q n (Zt (m+n) m) (fillA V ds a) w)∧(∀V w,Ext W w->Z6 acc m ds V w ((List.range m).filter (· !=l))->wpAny P .any ops Q (n+1) (Z9 (m+n) m l) (fillA V ds a) w)) (ops.toList.take m) 0 []):
 (Code.region id ops true).wp P Q a W:=by
 obtain⟨all,a1,_,a3,a4,a5⟩:=CV _ 0 [] rfl (fun R h=>by cases h) h
 have hmz:m<ops.size:=cZ
 have hlen:all.length=m:=CW
 have hdm:∀i,i<m->∀j∈deps.getD i [],j<i:=by
  simp only[ZJ,M2,Y1]at hchk
  have c4:=hchk.1.1.1.1.1.1.1.2
  rw[U1]at c4
  intro i hi j hj
  have h4:=c4 i (M4.2 hi)
  cases ho:ops[i]? with
  |none=>rw[ho]at h4;cases h4
  |some o=>exact CX
 refine BD (l:=l) (R:=fun i=>all.getD i fun _ _=>True) (m:=m) (ds:=ds) (deps:=deps) hm hchk ?_ ?_ ?_ ?_
 ·intro i v w w' h hx
  rw[U0]at h⊢
  cases hi:all[i]? with
  |none=>rw[hi]at h;trivial
  |some R=>exact cR
 ·exact cT
 ·exact dA
 ·exact dB
end Go.Proofs.YtbngggoccndefaaGreatDoor
namespace Go.Proofs.YtbngggoccndefaaGreatDoor
open Go.Proofs.Tryz
open Go.RowKit
theorem R9 {P:Program} {ops:Array Oper} {Q:Exit->Act->World->Prop} {fuel:Nat} {listed:Array Bool} {a:Act} {w:World} (i:Nat) {o:Oper} (hr:Region.ready .any ops listed=[i]) (ho:ops[i]? =some o)
 (h:∀K':Act->World->Prop,(∀a w,wpAny P .any ops Q fuel (listed.setIfInBounds i true) a w->K' a w)->if Region.wanted o (yielded ops a.tmps)=true then Oper.wp P o a w K' Q else K' (a.put o.dst undef) w):wpAny P .any ops Q (fuel+1) listed a w:=
 wpAny_ready hr L0 (TF ho h AllReady.nil)
end Go.Proofs.YtbngggoccndefaaGreatDoor
end
namespace Go.Proofs.YtbngggoccndefaaGreatDoor
open Go.Proofs.Tryz
section
open Go.RowKit
theorem Zk5 (s:ByteArray) (p:UInt8->Bool) (k:Nat) (h:k<s.size):(s.data.toList.take (k+1)).all p=((s.data.toList.take k).all p&&p s[k]):=by rw[ZF s k h,BE];simp
theorem dC (s:ByteArray) (p:UInt8->Bool) (k:Nat) (h:k<s.size) (hp:p s[k]=false):s.data.toList.all p=false:=dD
theorem dE (s:ByteArray) (hs:s.size<=maxLen) (w:World):
 Calls prog 118 #[.string s] w fun e w'=>e=.returned (.bool (Ea.digs s.data.toList))∧w=w':=by
 have hmx:s.size<=9223372036854775807:=hs
 clear hs
 obtain⟨res,hres⟩:∃res,Ea.digs s.data.toList=res:=⟨_,rfl⟩
 rw[hres]
 have HRES:=A0 hres
 clear hres
 go_enter func118,ntmps118
 go_wp2
 go_loop [3] (fun i=>∃k:Nat,k<=s.size∧i=.int .i64 (k:Int)∧Hid ((s.data.toList.take k).all (fun c=>Cd.isDig c.toNat)=true)) (fun i=>s.size-(intOf i).toNat)
 case atStart=>exact X4
 case round=>obtain⟨k,hk,rfl,hal⟩:=hrel;by_cases hlt:k<s.size;(·have HA:=A0 (Zk5 s (fun c=>Cd.isDig c.toNat) k hlt);by_cases h1:s[k].toNat<48;(·have hf:=dC s (fun c=>Cd.isDig c.toNat) k hlt MR;have HF:Hid (res=false):=A0 (by rw[<-HRES.out];exact hf);have d1:decide ((s[k].toNat:Int)<48)=true:=V0 B0;clear hf h1;exact YU);·have d1:decide ((s[k].toNat:Int)<48)=false:=X0 B0;by_cases h2:57<s[k].toNat;(·have hf:=dC s (fun c=>Cd.isDig c.toNat) k hlt MR;have HF:Hid (res=false):=A0 (by rw[<-HRES.out];exact hf);have d2:decide (57<(s[k].toNat:Int))=true:=V0 B0;clear hf h1 h2;exact YU);·have d2:decide (57<(s[k].toNat:Int))=false:=X0 B0;have HO:Hid ((s.data.toList.take (k+1)).all (fun c=>Cd.isDig c.toNat)=true):=A0 gI;clear h1 h2;exact RP);·obtain rfl:k=s.size:=B0;have HF:Hid (res=true):=A0 (by rw[<-HRES.out,<-hal.out,Z3];rfl);clear hk hlt hal;exact YU
theorem ZkJ (s:ByteArray) (j:Nat) (h:j<s.size):s.data.toList.drop (s.size-(j+1))=(s[s.size-1-j]' B0)::s.data.toList.drop (s.size-j):=by rw[show s.size-(j+1)=s.size-1-j by omega,XF s (s.size-1-j) B0,show s.size-1-j+1=s.size-j by omega]
theorem ZkD:∀n:Fin 10,(Cd.chr (n.1:Int)).toNat=48+n.1:=by decide
theorem LW (w:World) (c:UInt8) (x:Int) (hx:x=(c.toNat:Int)):
 (convert 90 9 (.slice (some ⟨w.heap.size,0,none⟩) 1 1)).run prog (w.alloc (.cells #[.int .u8 x] 5))=.ok (.string (Ea.bS [c])) (w.alloc (.cells #[.int .u8 x] 5)):=by
 subst hx
 exact Zr (w:=w.alloc (.cells #[.int .u8 (c.toNat:Int)] 5)) (l:=[c]) (.inr ⟨w.heap.size,0,1,rfl,by simp,fun i hi=>by simp only[I5,B9,D1,O4]at hi;obtain rfl:i=0:=B0;exact H7 #[.int .u8 (c.toNat:Int)] 5 w rfl⟩)
theorem dF (s:ByteArray) (hs:s.size<=4096) (HD:Hid (Ea.digs s.data.toList=true)) (w:World):
 Calls prog 188 #[.string s] w fun e w'=>e=.returned (.string (Ea.bS [Ea.chk s.data.toList]))∧Ext w w':=by
 go_enter func188,ntmps188
 go_wp2
 go_loop [3,4,5] (fun t x i=>∃j:Nat,j<=s.size∧i=.int .i64 ((s.size:Int)-1-(j:Int))∧t=.int .i64 (Cd.gsP (s.data.toList.drop (s.size-j))).1∧x=.int .i64 (Cd.gsP (s.data.toList.drop (s.size-j))).2) (fun _ _ i=>(intOf i+1).toNat)
 case atStart=>exact⟨0,O0 _,by rw[show(s.size:Int)-1-((0:Nat):Int)=(s.size:Int)-1 by omega],by rw[C7,YB];rfl,by rw[C7,YB];rfl⟩
 case round=>obtain⟨j,hj,rfl,rfl,rfl⟩:=hrel;have hb:=Cd.gsP_bd _ (Cd.allDig_drop (Ea.allDig HD.out) (s.size-j));rw[Z7]at hb;obtain⟨hb1,hb2⟩:=hb;by_cases hlt:j<s.size;(·have hdg:48<=(s[s.size-1-j]' B0).toNat∧(s[s.size-1-j]' B0).toNat<=57:=(Ea.allDig HD.out) _ (Zn s (s.size-1-j) B0);have hw:=Cd.gsP_w (s.data.toList.drop (s.size-j));have hs1:Cd.gsP (s.data.toList.drop (s.size-(j+1)))=((Cd.gsP (s.data.toList.drop (s.size-j))).1+(Cd.gsP (s.data.toList.drop (s.size-j))).2*Cd.dg (s[s.size-1-j]' B0),4-(Cd.gsP (s.data.toList.drop (s.size-j))).2):=R0 Cd.gsP (ZkJ s j hlt);generalize Cd.gsP (s.data.toList.drop (s.size-j))=g at*;obtain⟨q,hq⟩:∃q,s.size-1-j=q:=⟨_,rfl⟩;have hqi:(s.size:Int)-1-(j:Int)=(q:Int):=B0;have hqs:q<s.size:=B0;have hsq:(s[s.size-1-j]' B0)=s[q]:=(by congr 1);rw[hsq]at hdg hs1;rw[hqi];have HQ:Hid (s.size-1-j=q∧(s.size:Int)-1-(j:Int)=(q:Int)):=A0 ⟨hq,hqi⟩;obtain⟨e1,e2⟩:=hdg;have hdd:Cd.dg s[q]=(s[q].toNat:Int)-48:=rfl;rw[hdd]at hs1;have HS:=A0 hs1;clear hs1 hq hqi hsq hdd;obtain⟨a,b⟩:=g;dsimp only at hw hb1 hb2 HS⊢;have hb3:1<=b∧b<=3:=(by split at hw<;>omega);obtain⟨f1,f2⟩:=hb3;clear hw;obtain⟨y,hy⟩:∃y,b*((s[q].toNat:Int)-48)=y:=⟨_,rfl⟩;have hyb:0<=y∧y<=27:=(by rw[<-hy];have hbb:b=1∨b=2∨b=3:=B0;rcases hbb with rfl|rfl|rfl<;>omega);rw[hy]at HS;obtain⟨y1,y2⟩:=hyb;go_wp2;go_round;(case rel=>exact⟨j+1,by omega,by have:=HQ.out.2;congr 1;omega,by rw[HS.out],by rw[HS.out]⟩);case measure=>simp[intOf]);·obtain rfl:j=s.size:=B0;rw[I4,R5]at hb1 hb2⊢;obtain⟨g,hg⟩:∃g,(Cd.gsP s.data.toList).1=g:=⟨_,rfl⟩;have HC:Hid (Ea.chk s.data.toList=Cd.chr ((10-g%10)%10)):=A0 (by unfold Ea.chk;rw[hg]);rw[hg]at hb1 hb2⊢;clear hg hj hlt;rw[show(s.size:Int)-1-(s.size:Int)= -1 by omega];generalize(Cd.gsP s.data.toList).2=b;obtain⟨x,hx⟩:∃x:Nat,(10-g%10)%10=(x:Int):=⟨((10-g%10)%10).toNat,by omega⟩;have hx10:x<10:=B0;have hcv:=LW w (Cd.chr (x:Int)) (48+(x:Int)) (by have h:=ZkD ⟨x,hx10⟩;dsimp only at h;rw[h];omega);rw[hx]at HC;go_wp2;go_ret;exact⟨by rw[HC.out];rfl,Xe⟩
theorem dG (k:Int) (w:World):Calls prog 117 #[.int .i64 k] w fun e w'=>e=.returned (.int .i64 (Ea.size k:Int))∧w=w':=by
 have h:k=1∨k=2∨k=3∨k=4∨(k≠1∧k≠2∧k≠3∧k≠4):=by omega
 rcases h with rfl|rfl|rfl|rfl|⟨h1,h2,h3,h4⟩;iterate 4
  ·go_enter func117,ntmps117;exact C6
 ·have e:Ea.size k=0:=gG;have b1:(k==1)=false:=N0.2 h1;have b2:(k==2)=false:=N0.2 h2;have b3:(k==3)=false:=N0.2 h3;have b4:(k==4)=false:=N0.2 h4;rw[e];clear h1 h2 h3 h4 e;go_enter func117,ntmps117;exact C6
theorem ZoR {l:List UInt8} (h:l.length=7):∃a0 a1 a2 a3 a4 a5 a6,l=[a0,a1,a2,a3,a4,a5,a6]:=by
 match l,h with
 | [a0,a1,a2,a3,a4,a5,a6],_=>exact⟨_,_,_,_,_,_,_,rfl⟩
theorem Zl9 {a:ByteArray} {l:List UInt8} (h:a.data.toList=l):Ending.returned (.string a)=.returned (.string (Ea.bS l)):=by rw[<-h,Ea.bS_of]
theorem ZhG (s:ByteArray) (h7:s.size=7) (HD:Hid (Ea.digs s.data.toList=true)) (w:World):
 Calls prog 189 #[.string s] w fun e w'=>e=.returned (.string (Ea.bS (Ea.exp7 s.data.toList)))∧Ext w w':=by
 obtain⟨res,hres⟩:∃res,Ea.exp7 s.data.toList=res:=⟨_,rfl⟩
 rw[hres]
 obtain⟨a0,a1,a2,a3,a4,a5,a6,hl⟩:=ZoR (l:=s.data.toList) LB
 have h48:48<=a6.toNat:=((Ea.allDig HD.out) a6 (by rw[hl];simp)).1
 rw[hl]at hres
 have HR:=A0 hres
 have HL:=A0 hl
 have hs7:7<=s.size:=by omega
 have hs8:s.size<=7:=by omega
 have hi6:6<s.size:=by omega
 have h6:s[6]=a6:=by have h1:s.data.toList[6]? =some s[6]:=M0 (by rw[Zd];exact hi6);rw[hl]at h1;simpa using h1.symm
 have h6n:s[6].toNat=a6.toNat:=by rw[h6]
 have HF:Hid (∀(x:ByteArray),x.data.toList=res->Ending.returned (.string x)=.returned (.string (Ea.bS res))):=A0 (fun x hx=>Zl9 hx)
 clear hres hl h7 h6
 have h:a6.toNat=48∨a6.toNat=49∨a6.toNat=50∨a6.toNat=51∨a6.toNat=52∨52<a6.toNat:=by omega
 have q0:a6.toNat≠48->((s[6].toNat:Int)==48)=false:=fun h=>N0.2 B0
 have q1:a6.toNat≠49->((s[6].toNat:Int)==49)=false:=fun h=>N0.2 B0
 have q2:a6.toNat≠50->((s[6].toNat:Int)==50)=false:=fun h=>N0.2 B0
 have q3:a6.toNat≠51->((s[6].toNat:Int)==51)=false:=fun h=>N0.2 B0
 have q4:a6.toNat≠52->((s[6].toNat:Int)==52)=false:=fun h=>N0.2 B0
 have HG:Hid (a6.toNat<=50->(s.extract 0 3++s.extract 6 7++⟨#[48,48,48,48]⟩++s.extract 3 6).data.toList=res):=A0 (fun h=>by have c1:a6<=50:=(by rw[RQ];exact h);rw[<-HR.out];simp only[Y3,F4,Z0,HL.out];unfold Ea.exp7;simp[c1])
 rcases h with h|h|h|h|h|h
 ·have d0:((s[6].toNat:Int)==48)=true:=Y0.2 B0;exact BF
 ·have d0:=q0 B0;have d1:((s[6].toNat:Int)==49)=true:=Y0.2 B0;exact BF
 ·have d0:=q0 B0;have d1:=q1 B0;have d2:((s[6].toNat:Int)==50)=true:=Y0.2 B0;exact BF
 ·have d0:=q0 B0;have d1:=q1 B0;have d2:=q2 B0;have d3:((s[6].toNat:Int)==51)=true:=Y0.2 B0;obtain rfl:a6=51:=R4.1 h;have HG2:Hid ((s.extract 0 4++⟨#[48,48,48,48,48]⟩++s.extract 4 6).data.toList=res):=A0 dH;exact BG
 ·have d0:=q0 B0;have d1:=q1 B0;have d2:=q2 B0;have d3:=q3 B0;have d4:((s[6].toNat:Int)==52)=true:=Y0.2 B0;obtain rfl:a6=52:=R4.1 h;have HG2:Hid ((s.extract 0 5++⟨#[48,48,48,48,48]⟩++s.extract 5 6).data.toList=res):=A0 dH;exact BG
 ·have d0:=q0 B0;have d1:=q1 B0;have d2:=q2 B0;have d3:=q3 B0;have d4:=q4 B0;have n50:¬a6<=50:=gL;have n51:¬a6=51:=MS;have n52:¬a6=52:=MS;have HG2:Hid ((s.extract 0 6++⟨#[48,48,48,48]⟩++s.extract 6 7).data.toList=res):=A0 (by rw[<-HR.out];simp only[Y3,F4,Z0,HL.out];unfold Ea.exp7;simp[n50,n51,n52]);clear h q0 q1 q2 q3 q4 h6n h48 n50 n51 n52;exact dI
theorem ZgS (k:Int) (s:ByteArray) (hk:k=4->s.size=7) (hs:s.size<=4096) (HD:Hid (Ea.digs s.data.toList=true)) (w:World):
 Calls prog 119 #[.int .i64 k,.string s] w fun e w'=>e=.returned (.string (Ea.bS [Ea.chkOf k s.data.toList]))∧Ext w w':=by
 by_cases h4:k=4
 ·subst h4;have h7:=hk rfl;have HE:=A0 (fun w=>ZhG s h7 HD w);have hz:(Ea.bS (Ea.exp7 s.data.toList)).size=11:=(by rw[Zf (Ea.bS_list _),Ea.exp7_len LB]);have HC:=A0 (fun w=>dF (Ea.bS (Ea.exp7 s.data.toList)) B0 (A0 (by rw[Ea.bS_list];exact Ea.exp7_digs HD.out)) w);rw[Ea.bS_list]at HC;have e:Ea.chkOf 4 s.data.toList=Ea.chk (Ea.exp7 s.data.toList):=rfl;rw[e];generalize Ea.exp7 s.data.toList=X at*;clear hz h7 hk hs e;go_enter func119,ntmps119;go_wp2_with fail;refine(HE.out _).mono ?_;rintro e w1 ⟨rfl,hx1⟩;go_wp2_with fail;refine(HC.out _).mono ?_;rintro e w2 ⟨rfl,hx2⟩;go_wp2;go_ret;exact⟨rfl,hx1.trans hx2⟩
 ·have HC:=A0 (fun w=>dF s hs HD w);have e:Ea.chkOf k s.data.toList=Ea.chk s.data.toList:=(by unfold Ea.chkOf;rw[C0 h4]);have b4:(k==4)=false:=N0.2 h4;rw[e];clear hk hs e h4;go_enter func119,ntmps119;go_wp2_with fail;refine(HC.out _).mono ?_;exact dJ
def dK (m:List Bool) (w:World) (e:Ending) (w':World):Prop:=∃v,e=.returned v∧Own 4 w' w.heap.size v (m.map encT)∧Ext w w'
theorem ZmR {w:World} {b B n:Nat} {t:TypeId} {f:Nat->Value} (h:w.rowIs b t n f) (hB:B<=b) (hn:n<=maxLen):Own t w B (.slice (some ⟨b,0,none⟩) n n) ((List.range n).map f):=by
 obtain⟨c,hb,hs,hc⟩:=h;refine⟨by simp,.inr ⟨b,n,c,by simp,hB,hb,by simp,hn,by simp[hs],?_⟩⟩;apply XQ;intro i;rw[W6];by_cases hi:i<n;·have h2:=hc i hi;simp only[J0,O6,A9,hi,W4,EU,h2];simp[hi]
 ·simp[hi]
theorem Own.congr {t:TypeId} {w:World} {B:Nat} {v:Value} {xs ys:List Value} (h:Own t w B v xs) (e:xs=ys):Own t w B v ys:=e▸h
def zS (u:List Nat):List UInt8:=u.map Ea.chr
theorem Zou (u:List Nat):(zS u).length=u.length:=by simp[zS]
theorem Zot (u v:List Nat):zS (u++v)=zS u++zS v:=by simp[zS]
theorem BH {u v:List Nat} (hu:∀x∈u,x<10) (hv:∀x∈v,x<10) (h:zS u=zS v):u=v:=by
 induction u generalizing v with
 |nil=>cases v with
  |nil=>rfl
  |cons y v=>simp[zS]at h
 |cons x u ih=>cases v with
  |nil=>simp[zS]at h
  |cons y v=>simp only[zS,I5,VE]at h;have hc:∀a b:Fin 10,Ea.chr a.1=Ea.chr b.1->a=b:=I0;have:=hc ⟨x,hu x (N2 ..)⟩ ⟨y,hv y (N2 ..)⟩ h.1;simp only[Fin.mk.injEq]at this;rw[this,ih (fun z hz=>hu z (V2 _ hz)) (fun z hz=>hv z (V2 _ hz)) h.2]
theorem ZB (s:ByteArray) (m:List Bool) (hs:s.data.toList=Ea.mS m) (hm:m.length<=1000000) (w:World):
 Calls prog 190 #[.string s] w (dK m w):=by
 have hsz:s.size=m.length:=XZ
 have HS:=A0 hs
 have HZ:=A0 hsz
 have hss:s.size<=1000000:=by omega
 clear hs hsz
 go_enter func190,ntmps190
 go_wp2
 go_loopw [3,4] (fun v3 v4 wr=>∃k:Nat,k<=s.size∧v4=.int .i64 (k:Int)∧Own 4 wr w.heap.size v3 ((m.take k).map encT)∧Ext w wr) (fun _ v4 _=>s.size-(intOf v4).toNat)
 case atStart=>exact BI
 case round=>obtain⟨k,hk,rfl,hown,hxr⟩:=hrel;by_cases hlt:k<s.size;(·obtain⟨b,hb⟩:∃b,m[k]? =some b:=⟨_,M0 (by rw[<-HZ.out];exact hlt)⟩;have hsj:s[k]=Ea.mb b:=(by have h1:s.data.toList[k]? =some s[k]:=M0 RM;exact gC);have HT:Hid (m.take (k+1)=m.take k++[b]):=A0 (by obtain⟨h1,h2⟩:=I1.1 hb;rw[V8 h1,h2]);have hbit:((s[k].toNat:Int)==49)=b:=(by rw[hsj];cases b<;>rfl);have hgl:(m.take k).length<=k:=WA;generalize m.take k=got at*;clear hb hsj;go_wp2_with (at_builtin;refine ZU rfl _ _ rfl w.heap.size _ got rfl (hown.alloc _) _ b rfl ?c1 ?c2 ?c3 ?_);(case c1=>exact K7);(case c2=>omega);(case c3=>have:=hxr.size;exact S0);intro v' w5 hown5 hg5;have hx5:=(hxr.alloc _).ofGrown hg5 hown.low;clear hown hg5 hbit;exact dL);·obtain rfl:k=s.size:=B0;have HT:Hid (m.take s.size=m):=A0 (by rw[HZ.out,J5]);clear hk hlt;go_wp2;go_ret;exact⟨_,rfl,by rw[HT.out]at hown;exact hown,hxr⟩
theorem ZlU (d:Nat) (hd:d<10) (w:World):(w.alloc (.cells #[.string ⟨#[48,48,48,49,49,48,49]⟩,.string ⟨#[48,48,49,49,48,48,49]⟩,.string ⟨#[48,48,49,48,48,49,49]⟩,.string ⟨#[48,49,49,49,49,48,49]⟩,.string ⟨#[48,49,48,48,48,49,49]⟩,.string ⟨#[48,49,49,48,48,48,49]⟩,.string ⟨#[48,49,48,49,49,49,49]⟩,.string ⟨#[48,49,49,49,48,49,49]⟩,.string ⟨#[48,49,49,48,49,49,49]⟩,.string ⟨#[48,48,48,49,48,49,49]⟩] 9)).cell? ⟨w.heap.size,d,none⟩=some (.string (Ea.bS (Ea.mS (Ea.modl 0 d)))):=LX
theorem ZlF (d:Nat) (hd:d<10) (w:World):(w.alloc (.cells #[.string ⟨#[48,48,48,48,48,48]⟩,.string ⟨#[48,48,49,48,49,49]⟩,.string ⟨#[48,48,49,49,48,49]⟩,.string ⟨#[48,48,49,49,49,48]⟩,.string ⟨#[48,49,48,48,49,49]⟩,.string ⟨#[48,49,49,48,48,49]⟩,.string ⟨#[48,49,49,49,48,48]⟩,.string ⟨#[48,49,48,49,48,49]⟩,.string ⟨#[48,49,48,49,49,48]⟩,.string ⟨#[48,49,49,48,49,48]⟩] 9)).cell? ⟨w.heap.size,d,none⟩=some (.string (Ea.bS (zS (Ea.sets13 d)))):=LX
theorem Znj (d:Nat) (hd:d<10) (w:World):(w.alloc (.cells #[.string ⟨#[49,49,49,48,48,48]⟩,.string ⟨#[49,49,48,49,48,48]⟩,.string ⟨#[49,49,48,48,49,48]⟩,.string ⟨#[49,49,48,48,48,49]⟩,.string ⟨#[49,48,49,49,48,48]⟩,.string ⟨#[49,48,48,49,49,48]⟩,.string ⟨#[49,48,48,48,49,49]⟩,.string ⟨#[49,48,49,48,49,48]⟩,.string ⟨#[49,48,49,48,48,49]⟩,.string ⟨#[49,48,48,49,48,49]⟩] 9)).cell? ⟨w.heap.size,d,none⟩=some (.string (Ea.bS (zS (Ea.setsE 0 d)))):=LX
theorem Zmp (d:Nat) (hd:d<4) (w:World):(w.alloc (.cells #[.string ⟨#[48,48]⟩,.string ⟨#[48,49]⟩,.string ⟨#[49,48]⟩,.string ⟨#[49,49]⟩] 9)).cell? ⟨w.heap.size,d,none⟩=some (.string (Ea.bS (zS (Ea.setsA2.getD d [])))):=by
 have h:d=0∨d=1∨d=2∨d=3:=by omega
 rcases h with rfl|rfl|rfl|rfl<;>exact H7 _ _ w rfl
theorem Zmq (d:Nat) (hd:d<10) (w:World):(w.alloc (.cells #[.string ⟨#[49,49,48,48,48]⟩,.string ⟨#[49,48,49,48,48]⟩,.string ⟨#[49,48,48,49,48]⟩,.string ⟨#[49,48,48,48,49]⟩,.string ⟨#[48,49,49,48,48]⟩,.string ⟨#[48,48,49,49,48]⟩,.string ⟨#[48,48,48,49,49]⟩,.string ⟨#[48,49,48,49,48]⟩,.string ⟨#[48,49,48,48,49]⟩,.string ⟨#[48,48,49,48,49]⟩] 9)).cell? ⟨w.heap.size,d,none⟩=some (.string (Ea.bS (zS (Ea.setsA5.getD d [])))):=LX
theorem ZhI (d:Nat) (hd:d<10) (w:World):Calls prog 193 #[.int .i64 (d:Int)] w fun e w'=>e=.returned (.string (Ea.bS (zS (Ea.sets13 d))))∧Ext w w':=by have hc:=ZlF d hd w;go_enter func193,ntmps193;exact A8
theorem Zlq:∀(d:Fin 10) (j:Fin 7),(Ea.modl 2 d.1).getD j.1 false= !(Ea.modl 0 d.1).getD j.1 false:=by decide
theorem Zlp:∀(d:Fin 10) (j:Fin 7),(Ea.modl 1 d.1).getD j.1 false= !(Ea.modl 0 d.1).getD (6-j.1) false:=by decide
theorem BJ:∀(t:Fin 3) (d:Fin 10),(Ea.modl t.1 d.1).length=7:=by decide
theorem Own.cells {t:TypeId} {w:World} {B:Nat} {v:Value} {m:List Bool} (h:Own t w B v (m.map encT)) (hm:0<m.length):
 ∃g c,v=.slice (some ⟨g,0,none⟩) m.length c∧B<=g∧g<w.heap.size∧∀i,i<m.length->w.cell? ⟨g,i,none⟩=some (.bool (m.getD i false)):=by
 have h0:=h
 rcases h.2 with⟨_,hz⟩|⟨g,cap,cur,hv,hbase,hb,_⟩
 ·rw[J0]at hz;omega
 ·rw[J0]at hv;refine⟨g,cap,hv,hbase,(O3.1 hb).1,fun i hi=> ?_⟩;subst hv;have:=World.ownsRow.cellAt (by unfold Own at h0;rw[J0]at h0;exact h0) i B0;rw[this,J2,M0 hi,U0,M0 hi];rfl
theorem Zjk (d t:Nat) (hd:d<10) (ht:t<3) (w:World):Calls prog 246 #[.int .i64 (d:Int),.int .i64 (t:Int)] w (dK (Ea.modl t d) w):=by
 have hc:=ZlU d hd w;have hl0:(Ea.modl 0 d).length=7:=BJ ⟨0,by omega⟩ ⟨d,hd⟩;have hlt7:(Ea.modl t d).length=7:=BJ ⟨t,ht⟩ ⟨d,hd⟩;have HM:=A0 (fun w=>ZB (Ea.bS (Ea.mS (Ea.modl 0 d))) (Ea.modl 0 d) (Ea.bS_list _) B0 w);have h':t=0∨t=1∨t=2:=by omega
 have H2:Hid (∀j,j<7->(Ea.modl 2 d).getD j false= !(Ea.modl 0 d).getD j false):=A0 (fun j hj=>Zlq ⟨d,hd⟩ ⟨j,hj⟩);have H1:Hid (∀j,j<7->(Ea.modl 1 d).getD j false= !(Ea.modl 0 d).getD (6-j) false):=A0 (fun j hj=>Zlp ⟨d,hd⟩ ⟨j,hj⟩);obtain⟨m,hm⟩:∃m,Ea.modl 0 d=m:=⟨_,rfl⟩;have HM0:=A0 hm;obtain⟨X,hX⟩:∃X,Ea.bS (Ea.mS (Ea.modl 0 d))=X:=⟨_,rfl⟩;rw[hX]at hc HM;rw[hm]at HM hl0 H1 H2;clear hm hX;rcases h' with rfl|rfl|rfl;·go_enter func246,ntmps246;go_wp2_with fail;refine(HM.out _).mono ?_;rintro e w1 ⟨v,rfl,hown,hx⟩;go_wp2;go_ret;exact⟨_,rfl,by rw[HM0.out];exact hown.mono L0,((Ext.refl w).alloc _).trans hx⟩
 ·obtain⟨r,hr⟩:∃r,Ea.modl 1 d=r:=⟨_,rfl⟩;rw[hr]at H1 hlt7⊢;rw[show((1:Nat):Int)=1 from rfl];clear hr H2;have hmk:∀w,(Instr.makeSlice 26 (.int .i64 7) (.int .i64 7)).run prog w=.ok (.slice (some ⟨w.heap.size,0,none⟩) 7 7) (w.alloc (.cells (madeCells #[.bool false] 7) 4)):=fun w=>G9 (P:=prog) 26 4 (.bool false) 1 underlying26 G0 rfl .i64 .i64 7 B0 B0 w;have HL7:=A0 (And.intro hl0 hlt7);clear hl0 hlt7 HM0;go_enter func246,ntmps246;go_wp2_with fail;refine(HM.out _).mono ?_;rintro e w1 ⟨v,rfl,hown,hx⟩;obtain⟨g,c,rfl,hgB,hgs,hgc⟩:=hown.cells (by rw[HL7.out.1];omega);rw[HL7.out.1]at hgc;rw[HL7.out.1];have HGC:=A0 hgc;have hxw:=((Ext.refl w).alloc _).trans hx;have hsz:=hxw.size;clear hown hx hgB hgc hc;go_wp2;clear hmk;go_loopw [7] (fun i wr=>∃j:Nat,j<=7∧i=.int .i64 (j:Int)∧wr.rowIs w1.heap.size 4 7 (fun k=>if k<j then encT (r.getD k false)else .bool false)∧Ext w1 wr) (fun i _=>7-(intOf i).toNat);(case atStart=>exact dM);case round=>obtain⟨j,hj,rfl,hrow,hxr⟩:=hrel;by_cases hlt:j<7;(·have hcell:=hrow.cell hlt;have hfz:=hrow.frozen j;have HV:=A0 (H1.out j hlt);obtain⟨q,hq⟩:∃q,6-j=q:=⟨_,rfl⟩;have hqi:(6:Int)-(j:Int)=(q:Int):=B0;have hq7:q<7:=B0;rw[hq]at HV;clear hq;have hc0:=(hxr.cell (p:=⟨g,q,none⟩) hgs).trans (HGC.out q B0);obtain⟨b,hb⟩:∃b,m.getD q false=b:=⟨_,rfl⟩;exact dN);·exact dO
 ·obtain⟨r,hr⟩:∃r,Ea.modl 2 d=r:=⟨_,rfl⟩;rw[hr]at H2 hlt7⊢;rw[show((2:Nat):Int)=2 from rfl];clear hr H1;have hmk:∀w,(Instr.makeSlice 26 (.int .i64 7) (.int .i64 7)).run prog w=.ok (.slice (some ⟨w.heap.size,0,none⟩) 7 7) (w.alloc (.cells (madeCells #[.bool false] 7) 4)):=fun w=>G9 (P:=prog) 26 4 (.bool false) 1 underlying26 G0 rfl .i64 .i64 7 B0 B0 w;have HL7:=A0 (And.intro hl0 hlt7);clear hl0 hlt7 HM0;go_enter func246,ntmps246;go_wp2_with fail;refine(HM.out _).mono ?_;rintro e w1 ⟨v,rfl,hown,hx⟩;obtain⟨g,c,rfl,hgB,hgs,hgc⟩:=hown.cells (by rw[HL7.out.1];omega);rw[HL7.out.1]at hgc;rw[HL7.out.1];have HGC:=A0 hgc;have hxw:=((Ext.refl w).alloc _).trans hx;have hsz:=hxw.size;clear hown hx hgB hgc hc;go_wp2;clear hmk;go_loopw [7] (fun i wr=>∃j:Nat,j<=7∧i=.int .i64 (j:Int)∧wr.rowIs w1.heap.size 4 7 (fun k=>if k<j then encT (r.getD k false)else .bool false)∧Ext w1 wr) (fun i _=>7-(intOf i).toNat);(case atStart=>exact dM);case round=>obtain⟨j,hj,rfl,hrow,hxr⟩:=hrel;by_cases hlt:j<7;(·have hcell:=hrow.cell hlt;have hfz:=hrow.frozen j;have HV:=A0 (H2.out j hlt);have hc0:=(hxr.cell (p:=⟨g,j,none⟩) hgs).trans (HGC.out j B0);obtain⟨b,hb⟩:∃b,m.getD j false=b:=⟨_,rfl⟩;exact dN);·exact dO
end
end Go.Proofs.YtbngggoccndefaaGreatDoor
section
namespace Go.Proofs.YtbngggoccndefaaGreatDoor
open Go.Proofs.Tryz
end Go.Proofs.YtbngggoccndefaaGreatDoor
namespace Go.Proofs.YtbngggoccndefaaGreatDoor
open Go.Proofs.Tryz
open Go.RowKit
def LY (n x:Nat) (X:ByteArray):Rel:=fun v w=>∃b,v=.slice (some ⟨b,0,none⟩) n n∧b<w.heap.size∧w.cell? ⟨b,x,none⟩=some (.string X)
theorem LY.stable {n x:Nat} {X:ByteArray}:Rel.Stable (LY n x X):=fun _ _ _ ⟨b,h1,h2,h3⟩ hx=>⟨b,h1,G2 h2 hx.size,(hx.cell (p:=⟨b,x,none⟩) h2).trans h3⟩
def LZ (x:Nat) (X:ByteArray):Rel:=fun v w=>∃b,v=.pointer (some ⟨b,x,none⟩)∧b<w.heap.size∧w.cell? ⟨b,x,none⟩=some (.string X)
theorem LZ.stable {x:Nat} {X:ByteArray}:Rel.Stable (LZ x X):=fun _ _ _ ⟨b,h1,h2,h3⟩ hx=>⟨b,h1,G2 h2 hx.size,(hx.cell (p:=⟨b,x,none⟩) h2).trans h3⟩
theorem WO {c:UInt8} {d:Nat} (h:c.toNat=48+d) (hd:d<=9):
 (c.toNat:Int)=((48+d:Nat):Int)∧IntKind.u8.wrap (d:Int)=(d:Int)∧IntKind.i64.wrap (d:Int)=(d:Int)∧(48:Int)+(d:Int)-48=(d:Int):=
 ⟨by omega,IntWalk.u8_in _ B0,T3 _ B0,by omega⟩
theorem WP {s:ByteArray} (hd:Ea.digs s.data.toList=true) (i:Nat) (h:i<s.size):∃d,s[i].toNat=48+d∧d<=9∧Ea.dv s.data.toList i=d:=by have h1:=Ea.digs_iff.1 hd s[i] (Zn s i h);refine⟨s[i].toNat-48,by omega,by omega,?_⟩;unfold Ea.dv;exact VK
theorem ZiT:∀c:Fin 10,zS (Ea.setsE 1 c.1)=(zS (Ea.setsE 0 c.1)).map (fun x=>97-x):=by decide
theorem Zh4:∀c:Fin 10,(zS (Ea.setsE 0 c.1)).all (fun x=>decide (48<=x.toNat)&&decide (x.toNat<=49))=true:=by decide
theorem Zki:∀c:Fin 10,(zS (Ea.setsE 0 c.1)).length=6:=by decide
theorem Zje (y c:Nat) (hy:y<2) (hc:c<10) (w:World):Calls prog 192 #[.int .i64 (y:Int),.int .i64 (c:Int)] w fun e w'=>e=.returned (.string (Ea.bS (zS (Ea.setsE y c))))∧Ext w w':=by
 have hcl:=Znj c hc w;have h':y=0∨y=1:=by omega
 rcases h' with rfl|rfl;·go_enter func192,ntmps192;exact A8
 ·rw[ZiT ⟨c,hc⟩];have H1:=A0 (Zh4 ⟨c,hc⟩);have HL:=A0 (Zki ⟨c,hc⟩);dsimp only at H1 HL⊢;obtain⟨S,hS⟩:∃S,Ea.bS (zS (Ea.setsE 0 c))=S:=⟨_,rfl⟩;have HS:Hid (S.data.toList=zS (Ea.setsE 0 c)):=A0 (by rw[<-hS,Ea.bS_list]);rw[hS]at hcl;generalize zS (Ea.setsE 0 c)=l at*;have hSz:S.size=6:=(by rw[Zf HS.out,HL.out]);have hS6:S.size<=6:=B0;rw[show((1:Nat):Int)=1 from rfl];have hxw:=(Ext.refl w).alloc (.cells #[.string ⟨#[49,49,49,48,48,48]⟩,.string ⟨#[49,49,48,49,48,48]⟩,.string ⟨#[49,49,48,48,49,48]⟩,.string ⟨#[49,49,48,48,48,49]⟩,.string ⟨#[49,48,49,49,48,48]⟩,.string ⟨#[49,48,48,49,49,48]⟩,.string ⟨#[49,48,48,48,49,49]⟩,.string ⟨#[49,48,49,48,49,48]⟩,.string ⟨#[49,48,49,48,48,49]⟩,.string ⟨#[49,48,48,49,48,49]⟩] 9);have HXW:=A0 hxw;clear hS hSz hxw;go_enter func192,ntmps192;go_wp2;go_loopw [6,7] (fun v6 v7 wr=>∃k:Nat,k<=S.size∧v7=.int .i64 (k:Int)∧Own 5 wr w.heap.size v6 (((S.data.toList.take k).map (fun x=>97-x)).map encB)∧Ext w wr) (fun _ v7 _=>S.size-(intOf v7).toNat);(case atStart=>exact⟨0,O0 _,rfl,Own.nil _ _ _,HXW.out⟩);case round=>obtain⟨k,hk,rfl,hown,hxr⟩:=hrel;by_cases hlt:k<S.size;(·have hb:48<=S[k].toNat∧S[k].toNat<=49:=(by have:=H1.out;rw[<-HS.out,U1]at this;have:=this S[k] (Zn S k hlt);exact E9);obtain⟨hb1,hb2⟩:=hb;have HT:Hid ((S.data.toList.take (k+1)).map (fun x=>97-x)=(S.data.toList.take k).map (fun x=>97-x)++[97-S[k]]):=A0 (by rw[ZF S k hlt,E3];rfl);have hsub:((97-S[k]:UInt8).toNat:Int)=97-(S[k].toNat:Int):=(by rw[UInt8.toNat_sub_of_le _ _ (by rw[RQ,show(97:UInt8).toNat=97 from rfl];omega),show(97:UInt8).toNat=97 from rfl];omega);have hgl:((S.data.toList.take k).map (fun x=>97-x)).length<=k:=UJ;generalize(S.data.toList.take k).map (fun x=>97-x)=got at*;go_wp2_with (at_builtin;refine OI rfl _ _ rfl w.heap.size _ got rfl (hown.alloc _) _ (97-S[k]) rfl ?c1 ?c2 ?c3 ?_);(case c1=>simp[go_sem,encB,hsub]);(case c2=>omega);(case c3=>have:=hxr.size;exact S0);intro v' w5 hown5 hg5;have hx5:=(hxr.alloc _).ofGrown hg5 hown.low;clear hown hg5 hsub;exact dL);·obtain rfl:k=S.size:=B0;rw[Z3]at hown;have hcv:=Zr hown.sl;have HG:Hid (Ending.returned (.string ⟨((S.data.toList.map (fun x=>97-x))).toArray⟩)=.returned (.string (Ea.bS (l.map (fun x=>97-x))))):=A0 (by rw[HS.out];rfl);clear hk hlt hown;go_wp2;go_ret;exact⟨HG.out,hxr⟩
theorem ZgV (s:ByteArray) (h2:s.size=2) (hd:Ea.digs s.data.toList=true) (w:World):
 Calls prog 194 #[.string s] w fun e w'=>e=.returned (.string (Ea.bS (zS (Ea.setsAdd s.data.toList))))∧Ext w w':=by
 have b2:((s.size:Int)==2)=true:=by rw[h2];rfl
 have hz0:0<s.size:=by omega
 have hz1:1<s.size:=by omega
 obtain⟨d0,e0,l0,v0⟩:=WP hd 0 hz0
 obtain⟨d1,e1,l1,v1⟩:=WP hd 1 hz1
 obtain⟨hk0,hu0,hi0,hs0⟩:=WO e0 l0
 obtain⟨hk1,hu1,hi1,hs1⟩:=WO e1 l1
 obtain⟨x,hx⟩:∃x,(10*d0+d1)%4=x:=⟨_,rfl⟩
 have hmA:IntKind.i64.wrap (10*(d0:Int))=10*(d0:Int):=T3 _ B0
 have hmB:IntKind.i64.wrap (10*(d0:Int)+(d1:Int))=10*(d0:Int)+(d1:Int):=T3 _ B0
 have hm:(10*(d0:Int)+(d1:Int)).tmod 4=(x:Int):=LA
 have hx4:x<4:=by omega
 have hxw:IntKind.i64.wrap (x:Int)=(x:Int):=T3 _ B0
 have HX:Hid (Ea.setsA2.getD x []=Ea.setsAdd s.data.toList):=A0 (by unfold Ea.setsAdd;rw[D0 (by rw[Zd];exact h2),v0,v1,hx])
 obtain⟨X,hX⟩:∃X,Ea.bS (zS (Ea.setsA2.getD x []))=X:=⟨_,rfl⟩
 have HCL:=A0 (fun w=>Zmp x hx4 w)
 rw[hX]at HCL
 rw[<-HX.out,hX]
 clear hX HX hd e0 e1 v0 v1 hx h2
 go_enter func194,ntmps194
 go_wp2_with fail
 refine Zh 14 1 rfl [7,8,9,10,11,12,13,14,15,16,17,18,19,20] [[],[],[1],[2],[3],[4],[],[6],[7],[8],[5,9],[10],[0,11],[12]] G0 G0 ?_
 refine Zc (LY 4 x X) (LY.stable) ?_ ?_
 ·intro V w' hx hf;(with_reducible refine relAt_ops ?_);intro A ρ hA hρ hcst hfun;simp[relUpon,go_sem,hcst];exact⟨(Ext.refl w').alloc _,w'.heap.size,rfl,by simp,HCL.out w'⟩
 apply Za
 ·exact dP
 apply Za
 ·intro V w' hx hf;(with_reducible refine relAt_ops ?_);intro A ρ hA hρ hcst hfun;obtain⟨f8,_⟩:=hf;have h8:ρ (.tmp 8)=_:=(P0 hρ _).trans ((evalHit hA 8 rfl).trans f8);simp[relUpon,go_sem,hcst,↓IntWalk.iteOmega,Ext.refl,h8,hk0];rfl
 apply Za
 ·intro V w' hx hf;(with_reducible refine relAt_ops ?_);intro A ρ hA hρ hcst hfun;obtain⟨f9,_⟩:=hf;have h9:ρ (.tmp 9)=_:=(P0 hρ _).trans ((evalHit hA 9 rfl).trans f9);simp[relUpon,go_sem,hcst,Ext.refl,h9,hu0,hs0];rfl
 apply Za
 ·intro V w' hx hf;(with_reducible refine relAt_ops ?_);intro A ρ hA hρ hcst hfun;obtain⟨f10,_⟩:=hf;have h10:ρ (.tmp 10)=_:=(P0 hρ _).trans ((evalHit hA 10 rfl).trans f10);simp[relUpon,go_sem,Ext.refl,h10,hi0];rfl
 apply Za
 ·intro V w' hx hf;(with_reducible refine relAt_ops ?_);intro A ρ hA hρ hcst hfun;obtain⟨f11,_⟩:=hf;have h11:ρ (.tmp 11)=_:=(P0 hρ _).trans ((evalHit hA 11 rfl).trans f11);simp[relUpon,go_sem,hcst,Ext.refl,h11,hmA];rfl
 apply Za
 ·exact dP
 apply Za
 ·intro V w' hx hf;(with_reducible refine relAt_ops ?_);intro A ρ hA hρ hcst hfun;obtain⟨f13,_⟩:=hf;have h13:ρ (.tmp 13)=_:=(P0 hρ _).trans ((evalHit hA 13 rfl).trans f13);simp[relUpon,go_sem,hcst,↓IntWalk.iteOmega,Ext.refl,h13,hk1];rfl
 apply Za
 ·intro V w' hx hf;(with_reducible refine relAt_ops ?_);intro A ρ hA hρ hcst hfun;obtain⟨f14,_⟩:=hf;have h14:ρ (.tmp 14)=_:=(P0 hρ _).trans ((evalHit hA 14 rfl).trans f14);simp[relUpon,go_sem,hcst,Ext.refl,h14,hu1,hs1];rfl
 apply Za
 ·intro V w' hx hf;(with_reducible refine relAt_ops ?_);intro A ρ hA hρ hcst hfun;obtain⟨f15,_⟩:=hf;have h15:ρ (.tmp 15)=_:=(P0 hρ _).trans ((evalHit hA 15 rfl).trans f15);simp[relUpon,go_sem,Ext.refl,h15,hi1];rfl
 apply Za
 ·intro V w' hx hf;(with_reducible refine relAt_ops ?_);intro A ρ hA hρ hcst hfun;obtain⟨f12,f16,_⟩:=hf;have h12:ρ (.tmp 12)=_:=(P0 hρ _).trans ((evalHit hA 12 rfl).trans f12);have h16:ρ (.tmp 16)=_:=(P0 hρ _).trans ((evalHit hA 16 rfl).trans f16);simp[relUpon,go_sem,Ext.refl,h12,h16,hmB];rfl
 apply Za
 ·intro V w' hx hf;(with_reducible refine relAt_ops ?_);intro A ρ hA hρ hcst hfun;obtain⟨f17,_⟩:=hf;have h17:ρ (.tmp 17)=_:=(P0 hρ _).trans ((evalHit hA 17 rfl).trans f17);simp[relUpon,go_sem,hcst,Ext.refl,h17,hm];rfl
 refine Zc (LZ x X) (LZ.stable) ?_ ?_
 ·intro V w' hx hf;(with_reducible refine relAt_ops ?_);intro A ρ hA hρ hcst hfun;obtain⟨f7,f18,_⟩:=hf;have h7:ρ (.tmp 7)=V 7:=(P0 hρ _).trans (evalHit hA 7 rfl);have h18:ρ (.tmp 18)=_:=(P0 hρ _).trans ((evalHit hA 18 rfl).trans f18);obtain⟨b,e1,e2,e3⟩:=f7;have h7:=h7.trans e1;simp[relUpon,go_sem,↓IntWalk.iteOmega,Ext.refl,h7,h18];exact⟨b,rfl,e2,e3⟩
 refine Zc (eqv (.string X)) (Zg _) ?_ ?_
 ·intro V w' hx hf;(with_reducible refine relAt_ops ?_);intro A ρ hA hρ hcst hfun;obtain⟨f19,_⟩:=hf;have h19:ρ (.tmp 19)=V 19:=(P0 hρ _).trans (evalHit hA 19 rfl);obtain⟨b,e1,e2,e3⟩:=f19;have h19:=h19.trans e1;simp[relUpon,go_sem,Ext.refl,h19,e3];rfl
 intro V wT hxT hf
 obtain⟨g7,g8,g9,g10,g11,g12,g13,g14,g15,g16,g17,g18,g19,g20,_⟩:=hf
 refine ZhD 14 20 2 _ G0 rfl rfl (.inr rfl) G0 rfl rfl ?_
 have g20':V 20=.string X:=g20
 rw[g20']
 simp only[fillA,F1,O1,Act.put,V1,N1,L1]
 go_wp2
 go_ret
 exact⟨rfl,hxT⟩
end Go.Proofs.YtbngggoccndefaaGreatDoor
namespace Go.Proofs.YtbngggoccndefaaGreatDoor
open Go.Proofs.Tryz
open Go.RowKit
theorem ZfT (s:ByteArray) (h2:s.size=5) (hd:Ea.digs s.data.toList=true) (w:World):
 Calls prog 194 #[.string s] w fun e w'=>e=.returned (.string (Ea.bS (zS (Ea.setsAdd s.data.toList))))∧Ext w w':=by
 have b2:((s.size:Int)==2)=false:=by rw[h2];rfl
 have hz0:0<s.size:=by omega
 obtain⟨d0,e0,l0,v0⟩:=WP hd 0 hz0
 obtain⟨hk0,hu0,hi0,hs0⟩:=WO e0 l0
 have hz1:1<s.size:=by omega
 obtain⟨d1,e1,l1,v1⟩:=WP hd 1 hz1
 obtain⟨hk1,hu1,hi1,hs1⟩:=WO e1 l1
 have hz2:2<s.size:=by omega
 obtain⟨d2,e2,l2,v2⟩:=WP hd 2 hz2
 obtain⟨hk2,hu2,hi2,hs2⟩:=WO e2 l2
 have hz3:3<s.size:=by omega
 obtain⟨d3,e3,l3,v3⟩:=WP hd 3 hz3
 obtain⟨hk3,hu3,hi3,hs3⟩:=WO e3 l3
 have hz4:4<s.size:=by omega
 obtain⟨d4,e4,l4,v4⟩:=WP hd 4 hz4
 obtain⟨hk4,hu4,hi4,hs4⟩:=WO e4 l4
 have hmA:IntKind.i64.wrap ((d0:Int)+(d2:Int))=(d0:Int)+(d2:Int):=T3 _ B0
 have hmB:IntKind.i64.wrap ((d0:Int)+(d2:Int)+(d4:Int))=(d0:Int)+(d2:Int)+(d4:Int):=T3 _ B0
 have hmC:IntKind.i64.wrap (3*((d0:Int)+(d2:Int)+(d4:Int)))=3*((d0:Int)+(d2:Int)+(d4:Int)):=T3 _ B0
 have hmD:IntKind.i64.wrap ((d1:Int)+(d3:Int))=(d1:Int)+(d3:Int):=T3 _ B0
 have hmE:IntKind.i64.wrap (9*((d1:Int)+(d3:Int)))=9*((d1:Int)+(d3:Int)):=T3 _ B0
 have hmF:IntKind.i64.wrap (3*((d0:Int)+(d2:Int)+(d4:Int))+9*((d1:Int)+(d3:Int)))=3*((d0:Int)+(d2:Int)+(d4:Int))+9*((d1:Int)+(d3:Int)):=T3 _ B0
 obtain⟨x,hx⟩:∃x,(3*(d0+d2+d4)+9*(d1+d3))%10=x:=⟨_,rfl⟩
 have hm:(3*((d0:Int)+(d2:Int)+(d4:Int))+9*((d1:Int)+(d3:Int))).tmod 10=(x:Int):=LA
 have hx10:x<10:=by omega
 have HX:Hid (Ea.setsA5.getD x []=Ea.setsAdd s.data.toList):=A0 (by unfold Ea.setsAdd;rw[C0 YN,v0,v1,v2,v3,v4,hx])
 obtain⟨X,hX⟩:∃X,Ea.bS (zS (Ea.setsA5.getD x []))=X:=⟨_,rfl⟩
 have HCL:=A0 (fun w=>Zmq x hx10 w)
 rw[hX]at HCL
 rw[<-HX.out,hX]
 have HM:=A0 hm
 have HM2:Hid ((3*((d0:Int)+(d2:Int)+(d4:Int))+9*((d1:Int)+(d3:Int)))%10=(x:Int)):=A0 (by rw[<-hx];omega)
 clear hX HX hd e0 e1 e2 e3 e4 v0 v1 v2 v3 v4 hx h2 hm
 go_enter func194,ntmps194
 go_wp2_with fail
 go_quiet (fail)
 have hm:=HM.out
 have hm2:=HM2.out
 have hcl:=HCL.out (w.drewN nq)
 rw[show(w.drewN nq).heap.size=w.heap.size from rfl]at hcl
 have HXT:=A0 (((Ext.refl w).drewN nq).alloc)
 clear hk0 hk1 hk2 hk3 hk4 hu0 hu1 hu2 hu3 hu4 hi0 hi1 hi2 hi3 hi4 hs0 hs1 hs2 hs3 hs4 hmA hmB hmC hmD hmE hmF
 go_wp2
 go_ret
 exact⟨rfl,HXT.out _⟩
theorem ZgU (s:ByteArray) (h:s.size=2∨s.size=5) (hd:Ea.digs s.data.toList=true) (w:World):
 Calls prog 194 #[.string s] w fun e w'=>e=.returned (.string (Ea.bS (zS (Ea.setsAdd s.data.toList))))∧Ext w w':=by
 rcases h with h|h
 ·exact ZgV s h hd w
 ·exact ZfT s h hd w
end Go.Proofs.YtbngggoccndefaaGreatDoor
end
