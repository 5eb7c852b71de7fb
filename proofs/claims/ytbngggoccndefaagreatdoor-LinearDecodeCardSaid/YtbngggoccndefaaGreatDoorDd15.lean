/-
  Laid together.
-/
import Derived.Test.YtbngggoccndefaaGreatDoorDd11
set_option maxHeartbeats 16000000
set_option maxRecDepth 100000
set_option linter.unusedVariables false
set_option linter.unusedSimpArgs false
set_option linter.ambiguousOpen false
namespace Go.Proofs.YtbngggoccndefaaGreatDoor
open Go.Proofs.Tryz
section
namespace Ln
theorem dark_core (s:List Bool):dark s=false↔Rn.core s=[]:=by
 unfold dark;rcases Rn.row_split s with⟨h1,h2,_⟩|⟨m,h1,_,h3⟩;·refine⟨fun _=>h1,fun _=> ?_⟩;rw[h2];simp
 ·refine⟨fun h=> ?_,fun h=> ?_⟩;(·exfalso;have hm:true∈s:=(by rw[h3,h1];simp);rw[<-ZpE,ZoL]at h;exact h ⟨true,hm,rfl⟩);·rw[h1]at h;cases h
theorem decode_dark {s:List Bool} (h:(decode s).2=0):Rn.core s≠ []:=by
 intro hc;unfold decode at h;split at h;·cases h
 ·rw[ZmH ((dark_core s).2 hc)]at h;cases h
theorem cut_div (a k S:Int) (hk:1<=k) (hS:1<=S):a*k*S/(S*k)=a:=by
 have e:a*k*S=a*(S*k):=by rw[Int.mul_assoc,Int.mul_comm k S]
 rw[e];have:(1:Int)*1<=S*k:=Zo2 hS hk QhN QhN;exact Int.mul_ediv_cancel _ QhN
theorem scale {row:List Bool} {k:Nat} (h1:1<=k) (h8:k<=8) (hl:row.length<=1000) (hu:Rn.unit (Rn.widths row)=1) (hd:(decode row).2=0) (ha:Ea.ldg row<=64) (hb:Ea.trl row<=64):read (Rn.stretch k row)=((decode row).1,0):=by
 have hc:=decode_dark hd;obtain⟨p1,p2,p3,p4⟩:=Rn.stretch_is k h1 row hc;have hw:=Rn.widths_stretch k h1 row hc;have hpos:=Rn.widths_pos row;have hne:Rn.widths row≠ []:=fun e=>hc (by rw[<-Rn.mods_widths row,e];rfl);have hS:=Rn.sum_pos _ hpos;have hlen1:1<=(Rn.widths row).length:=Zob.2 hne;have hu2:=Rn.unit_mul k h1 _ hpos hu;have hfirst:(Rn.widths (Rn.stretch k row)).map (fun x=>x/Rn.unit (Rn.widths (Rn.stretch k row)))=Rn.widths row:=by rw[hw,hu2,Zos];have:((fun x=>x/(k:Int))∘fun x=>x*(k:Int))=id:=(by funext x;exact Int.mul_ediv_cancel x QhN);rw[this,List.map_id]
 have hrow:rowOf (Rn.widths row) (Ea.ldg (Rn.stretch k row):Nat) (Ea.trl (Rn.stretch k row):Nat) (Rn.sum (Rn.widths (Rn.stretch k row)))=row:=by unfold rowOf;rw[Rn.modules_widths row hc QhN,p1,p2,hw,Rn.sum_mul,Int.natCast_mul,Int.natCast_mul,cut_div _ _ _ QhN QhN,cut_div _ _ _ QhN QhN];have e1:(min 64 (Ea.ldg row:Int)).toNat=Ea.ldg row:=QhN;have e2:(min 64 (Ea.trl row:Int)).toNat=Ea.trl row:=QhN;rw[e1,e2];unfold quiet;rcases Rn.row_split row with⟨h,_⟩|⟨m,_,_,h⟩;(·exact absurd h hc);·exact h.symm
 have htry:readD (Rn.stretch k row)=some (decode row).1:=by unfold readD try_ cands;rw[hfirst];unfold tryGo;rw[hrow,ZmH ⟨by rw[Rn.modules_widths row hc QhN],hd⟩]
 unfold read;have hlk:(Rn.stretch k row).length<=8000:=by rw[Rn.stretch_len];have:=ZoN hl h8;omega
 rw[ZmF QhN,ZmF,htry];intro h;have h2:=(dark_core _).1 h;rw[p3]at h2;have:=Znb List.length h2;rw[Rn.stretch_len,ZnE]at this;rcases Nat.mul_eq_zero.1 this with h3|h3;·exact hc (Znq h3)
 ·omega
theorem readD_rev (row:List Bool):readD row.reverse=try_ (Rn.widths row).reverse (Ea.trl row) (Ea.ldg row):=by obtain⟨_,h1,h2,h3⟩:=Rn.turned row;unfold readD;rw[h1,h2];unfold Rn.widths;rw[h3,List.map_reverse]
theorem good_le (rows:List (List Bool)):(good rows).length<=rows.length:=List.length_filterMap_le _ _
end Ln
end
end Go.Proofs.YtbngggoccndefaaGreatDoor
namespace Go.Proofs.YtbngggoccndefaaGreatDoor
open Go.Proofs.Tryz
section
open Go.RowKit Go.Maps Go
section
variable {P:Program} {w:World} {k e:TypeId} {T:TypeId} {α:Type} {key:α->Value}
def intRk:Value->Option (DataW Unit×List MemPlace)
 | .int .i64 n=>some (.lit (.int .i64 n),[])
 |_=>none
theorem ZdN {v:Value} {z:DataW Unit×List MemPlace} (h:intRk v=some z):∃n,v=.int .i64 n∧z=(.lit (.int .i64 n),[]):=by
 unfold intRk at h;split at h;·exact⟨_,rfl,(Zqj h).symm⟩
 ·cases h
def MapV (P:Program) (k:TypeId) {α:Type} (key:α->Value) (w:World) (b n:Nat) (f:α->Option Int):Prop:=
 ∃(D:DataW Unit),w.ownsMap P k intRk b n D∧∀v l,keyOf P k (key v)=some l->Maps.has D l=(f v).isSome∧D.atKey l (.lit (.int .i64 0))=.lit (.int .i64 ((f v).getD 0))
theorem MapV.made (w:World):MapV P k key (w.alloc (.map #[] 0)) w.heap.size 0 (fun _=>none):=
 ⟨.map [],(World.ownsMap_made w P k intRk).mono (ZmK _),fun _ _ _=>⟨rfl,rfl⟩⟩
theorem MapV.get {b n:Nat} {f:α->Option Int} (h:MapV P k key w b n f) (K:Keyed P k) (ht:P.underlying T=some (.map k e)) (hz:(zeroValue e).run P w=.ok (.int .i64 0) w) {v:α} {l:Lit} (hv:keyOf P k (key v)=some l):
 (Instr.lookup T (.map (some b)) (key v) true).run P w=.ok (.tuple #[.int .i64 ((f v).getD 0),.bool (f v).isSome]) w:=by
 obtain⟨D,ho,hat⟩:=h
 obtain⟨h1,h2⟩:=hat v l hv
 obtain⟨x,ps,hrun,hR⟩:=ho.look_ok (t:=T) K ht hz (zd:=.lit (.int .i64 0)) (zp:=[]) rfl hv
 obtain⟨m,rfl,hm⟩:=ZdN hR
 have hm1:=Znb Prod.fst hm
 dsimp only at hm1
 rw[h2]at hm1
 injection hm1 with hm1
 injection hm1 with _ hm1
 rw[h1,<-hm1]at hrun
 exact hrun
theorem MapV.get1 {b n:Nat} {f:α->Option Int} (h:MapV P k key w b n f) (K:Keyed P k) (ht:P.underlying T=some (.map k e)) (hz:(zeroValue e).run P w=.ok (.int .i64 0) w) {v:α} {l:Lit} (hv:keyOf P k (key v)=some l):
 (Instr.lookup T (.map (some b)) (key v) false).run P w=.ok (.int .i64 ((f v).getD 0)) w:=by
 obtain⟨D,ho,hat⟩:=h
 obtain⟨h1,h2⟩:=hat v l hv
 obtain⟨es,clock,hb,F,_,rfl⟩:=ho
 rcases Maps.fit_look false K ht hz hb F hv with⟨hrun,_,h3⟩|⟨e0,y,_,_,hrun,hRv,h3,_⟩
 ·rw[h3]at h2;injection h2 with h2;injection h2 with _ h2;rw[<-h2];exact hrun
 ·rw[h3]at h2;obtain⟨c,hc,rfl⟩:=ZdN hRv;injection h2 with h2;injection h2 with _ h2;rw[<-h2,<-hc];exact hrun
theorem MapV.put [DecidableEq α] {b n:Nat} {f:α->Option Int} (h:MapV P k key w b n f) (K:Keyed P k) (ht:P.underlying T=some (.map k e)) {v:α} {l:Lit} (hv:keyOf P k (key v)=some l) (m:Int) (hn:n<maxLen) (hinj:∀a b:α,key a=key b->a=b):
 ∃w',(Instr.mapUpdate T (.map (some b)) (key v) (.int .i64 m)).run P w=.ok () w'∧MapV P k key w' b (n+1) (fun x=>if x=v then some m else f x)∧w.grownBy w' (some b):=by
 obtain⟨D,ho,hat⟩:=h
 obtain⟨w',hrun,ho',ht'⟩:=ho.store (t:=T) K ht hn hv (val:=.int .i64 m) (d:=.lit (.int .i64 m)) (ps:=[]) rfl
 refine⟨w',hrun,⟨_,ho',fun v' l' hv'=> ?_⟩,ht'.grown⟩
 by_cases h:v'=v
 ·subst h;have hl:l'=l:=Zqj (hv'.symm.trans hv);subst hl;rw[atKey_put_same ho.isMap (K.key hv),has_put_same ho.isMap (K.key hv)];dsimp only;rw[ZmH rfl];exact Qbg
 ·have hne:l'≠l:=fun e=>h (hinj _ _ (K.inj hv' (e▸hv)));rw[atKey_put_other hne,has_put_other hne];dsimp only;rw[ZmF h];exact hat v' l' hv'
theorem MapV.kept {w':World} {b n:Nat} {f:α->Option Int} (h:MapV P k key w b n f) {row:Option Nat} (hg:w.grownBy w' row) (hne:row≠some b):MapV P k key w' b n f:=by obtain⟨D,ho,hat⟩:=h;exact⟨D,ho.kept hg (fun e=>hne e.symm),hat⟩
theorem MapV.lt {b n:Nat} {f:α->Option Int} (h:MapV P k key w b n f):b<w.heap.size:=by obtain⟨D,ho,_⟩:=h;exact ho.lt
end
end
end Go.Proofs.YtbngggoccndefaaGreatDoor
namespace Go.Proofs.YtbngggoccndefaaGreatDoor
open Go.Proofs.Tryz
section
open Go.RowKit
theorem wide_len (ws:List Int) (h:(Tw.wide ws).2=0):(Tw.wide ws).1.length=ws.length:=by
 unfold Tw.wide at h⊢
 repeat' split
 all_goals first|(simp;done)|(simp_all;done)
theorem readK_len (k:Nat) (e:List UInt8) (check:Bool) (hc:Tw.countsK k e.length check=true) (h:(Tw.readK k e).2=0):Zcb k<=(Tw.readK k e).1.length∧(Tw.readK k e).1.length<=100000:=by
 have hb:check.toNat<=1:=Bool.toNat_le check
 match k with
 |0=>have hc':Tw.counts 9 1 1000 e.length check=true:=hc;unfold Tw.counts at hc';simp only[Zno,Zna]at hc';have h':(Tw.read Tw.c39 Tw.p39 [42] Cd.syms 9 e).2=0:=h;show 3<=(Tw.read Tw.c39 Tw.p39 [42] Cd.syms 9 e).1.length∧(Tw.read Tw.c39 Tw.p39 [42] Cd.syms 9 e).1.length<=100000;exact QcY
 |1=>have hc':Tw.counts 7 0 998 e.length check=true:=hc;unfold Tw.counts at hc';simp only[Zno,Zna]at hc';have h':(Tw.read Tw.cCb Tw.pCb Tw.eCb Tw.dCb 7 e).2=0:=h;show 2<=(Tw.read Tw.cCb Tw.pCb Tw.eCb Tw.dCb 7 e).1.length∧(Tw.read Tw.cCb Tw.pCb Tw.eCb Tw.dCb 7 e).1.length<=100000;exact QcY
 |k+2=>have hc':Tw.countsItf e.length=true:=hc;unfold Tw.countsItf at hc';simp only[Zno,Zna]at hc';have h':(Tw.readItf e).2=0:=h;have h3:Zcb (k+2)<=1:=(by unfold Zcb;omega);show Zcb (k+2)<=(Tw.readItf e).1.length∧(Tw.readItf e).1.length<=100000;unfold Tw.readItf at h'⊢;split;(·rename_i h1;rw[ZmH h1]at h';simp at h');·rename_i h1;rw[ZmF h1]at h';split;(·rename_i h2;rw[ZmH h2]at h';simp at h');·rename_i h2;rw[ZmF h2]at h';split;(·rename_i h4;rw[ZmH h4]at h';simp at h');·rw[ZbW,Zoj];omega
theorem textK_len (k:Nat) (l:List UInt8) (check:Bool):(Tw.textK k l check).length<=l.length:=by
 unfold Tw.textK;split;·simp only[Tw.text39,ZmY,Znr];omega
 ·unfold Tw.textCb;split;(·simp only[ZmM,ZmY,Znr];omega);·omega
 ·unfold Tw.textItf;split;(·simp only[ZmY];omega);·omega
theorem Zgx (k n:Nat) (check:Bool) (hc:Tw.countsK k n check=true):1<=n:=by
 match k with
 |0=>have hc':Tw.counts 9 1 1000 n check=true:=hc;unfold Tw.counts at hc';exact Qek
 |1=>have hc':Tw.counts 7 0 998 n check=true:=hc;unfold Tw.counts at hc';exact Qek
 |k+2=>have hc':Tw.countsItf n=true:=hc;unfold Tw.countsItf at hc';exact Qek
theorem Zhz (l:List Bool):(List.range l.length).map (fun k=>encB (if l.getD k false then 119 else 110))=(Tw.elems l).map encB:=by
 apply ZoK;·simp[Tw.elems]
 ·intro i h1 h2;simp[Tw.elems]at h1 h2⊢;simp[h1]
def DecR (r:List UInt8×Int) (w:World) (e:Ending) (w':World):Prop:=e=.returned (.tuple #[strV r.1,.int .i64 r.2])∧Ext w w'
theorem ZcD (k:Nat) (kind:Int) (v:Value) (ws:List Int) (check:Bool) (w:World) (hv:Sl w v (ws.map encI)) (hl:ws.length<=1000000) (hf:∀w,Calls prog 62 #[.int .i64 kind] w (TwFound k w)):
 Calls prog 21 #[.int .i64 kind,v,.bool check] w (DecR (Tw.decK k ws check) w):=by
 have HF:=ZmE hf
 have HT:=ZmE (Tw.decK.eq_1 k ws check)
 generalize Tw.decK k ws check=res at*
 clear hf
 obtain⟨a,c,rfl⟩:=hv.form
 have HW:=ZmE (fun w' hx=>Zff _ ws w' (Sl.ext hv hx) hl)
 rw[ZmI]at HW⊢
 clear hv
 cases hct:Tw.countsK k ws.length check
 ·rw[hct,ZmH rfl]at HT;go_enter func21,ntmps21;go_wp2_with fail;refine(HF.out _).mono ?_;rintro e w1 ⟨B,F,rfl,hF,hx1⟩;have hen1:∀xs w,(callFunc F.cf xs).run prog w=.ok (.enter F.cf xs) w:=hF.ent.2.1;have HC:=ZmE (fun w' hx=>hF.counts w' hx ws.length check QhN);rw[hct]at HC;clear hF hct;unfold SymFns.val;go_wp2_with fail;refine(HC.out _ (Above.of_ext _ Xe)).mono ?_;rintro e w2 ⟨rfl,rfl⟩;go_wp2;go_ret2;exact⟨by rw[HT.out];rfl,Xe⟩
 ·rw[hct,ZmF Bool.noConfusion]at HT;have HCT:=ZmE hct;have hpos:=Zgx k ws.length check hct;go_enter func21,ntmps21;go_wp2_with fail;refine(HF.out _).mono ?_;rintro e w1 ⟨B,F,rfl,hF,hx1⟩;have hen1:∀xs w,(callFunc F.cf xs).run prog w=.ok (.enter F.cf xs) w:=hF.ent.2.1;have hen2:∀xs w,(callFunc F.mf xs).run prog w=.ok (.enter F.mf xs) w:=hF.ent.2.2.1;have hen3:∀xs w,(callFunc F.rf xs).run prog w=.ok (.enter F.rf xs) w:=hF.ent.2.2.2.2.1;have hen4:∀xs w,(callFunc F.tf xs).run prog w=.ok (.enter F.tf xs) w:=hF.ent.2.2.2.2.2;have HC:=ZmE (fun w' hx=>hF.counts w' hx ws.length check QhN);have HRD:=ZmE (fun w' hx s hs=>hF.read w' hx s check hs);have HTX:=ZmE (fun w' hx s h1 h2=>hF.text w' hx s check h1 h2);have HCM:=ZmE (fun w' hx s h1=>hF.comp w' hx s true h1);rw[hct]at HC;clear hF hct HF;unfold SymFns.val;go_wp2_with fail;refine(HC.out _ (Above.of_ext _ Xe)).mono ?_;rintro e w2 ⟨rfl,rfl⟩;clear HC;go_wp2_with fail;refine(HW.out _ (hx1.alloc _)).mono ?_;rintro e w2 ⟨vw,rfl,hsl,hx2⟩;clear HW;have hz1:w1.heap.size<w2.heap.size:=(by have:=hx2.size;exact Qdx);have hx12:Ext w1 w2:=((Ext.refl w1).alloc _).trans hx2;have FY:Hid (∀w',Ext w2 w'->w'.cell? ⟨w1.heap.size,4,none⟩=some (.func (.func F.mf) #[] #[])∧w'.cell? ⟨w1.heap.size,6,none⟩=some (.func (.func F.rf) F.rr F.rc)∧w'.cell? ⟨w1.heap.size,7,none⟩=some (.func (.func F.tf) #[] #[])):=ZmE (fun w' hx=>by refine⟨?_,?_,?_⟩;(·rw[(hx2.trans hx).cell (p:=⟨w1.heap.size,4,none⟩) QhQ];simp[go_sem]);(·rw[(hx2.trans hx).cell (p:=⟨w1.heap.size,6,none⟩) QhQ];simp[go_sem]);·rw[(hx2.trans hx).cell (p:=⟨w1.heap.size,7,none⟩) QhQ];simp[go_sem]);replace hx1:=hx1.trans hx12;clear hx2;by_cases he:(Tw.wide ws).2≠0;(·rw[ZmH he]at HT;have d1:((Tw.wide ws).2 !=0)=true:=ZnA.2 he;generalize(Tw.wide ws).2=we at*;clear he hsl;go_wp2;go_ret2;exact⟨by rw[HT.out];rfl,hx1⟩);·rw[ZmF he]at HT;have he0:(Tw.wide ws).2=0:=ZnT he;have hlb:=wide_len ws he0;simp only[he0];clear he he0;generalize(Tw.wide ws).1=lb at*;have HLB:=ZmE hlb;have hlb1:lb.length<=1000000:=QhN;have hlb2:1<=lb.length:=QhN;rcases hsl with⟨h1,_⟩|⟨b2,o2,c2,rfl,hb2,hcell⟩;(·have:lb=[]:=Qim;rw[this]at hlb2;simp at hlb2);rw[ZmI]at hcell⊢;have HCB:Hid (∀w',Ext w2 w'->∀j,j<lb.length->w'.cell? ⟨b2,o2+j,none⟩=some (.bool (lb.getD j false))):=ZmE (fun w' hx j hj=>by rw[hx.cell (p:=⟨b2,o2+j,none⟩) hb2,hcell j hj,Znm,ZmL,ZmG hj];rfl);have hmk:=Zpa (P:=prog) 90 5 (.int .u8 0) 1 underlying90 QhO rfl .i64 .i64 lb.length QhN QhN;have hbn:b2≠w2.heap.size:=QhN;clear hcell hlb;go_wp2;clear hmk;go_loopw [45] (fun i wr=>∃j:Nat,j<=lb.length∧i=.int .i64 (j:Int)∧wr.rowIs w2.heap.size 5 lb.length (fun k=>if k<j then encB (if lb.getD k false then 119 else 110)else .int .u8 0)∧Ext w2 wr) (fun i _=>lb.length-(intOf i).toNat);(case atStart=>exact⟨0,ZmP _,rfl,(Zps w2 _ _ _).congr (fun i _=>by simp),Xe⟩);case round=>obtain⟨j,hj,rfl,hrow,hxr⟩:=hrel;by_cases hlt:j<lb.length;(·have hcj:=hrow.cell hlt;have hfj:=hrow.frozen j;have hbj:=HCB.out wr hxr j hlt;have hst:∀(f:World->World) (u:Value),True:=fun _ _=>trivial;cases hbb:lb.getD j false;(·rw[hbb]at hbj;have HR1:=ZmE ((hrow.set j (.int .u8 110)).congr (g:=fun k=>if k<j+1 then encB (if lb.getD k false then 119 else 110)else .int .u8 0) (fun k hk=>by by_cases h1:k=j;(·exact Qeb);·rw[ZmF h1];by_cases h2:k<j;(·exact QdD);·rw[ZmF h2,ZmF (show¬k<j+1 by omega)]));have HX1:=ZmE (hxr.setCell (p:=⟨w2.heap.size,j,none⟩) (ZmK _) (.int .u8 110));clear hrow hbb hst;exact QbJ);·rw[hbb]at hbj;have HR1:=ZmE (((hrow.set j (.int .u8 110)).set j (.int .u8 119)).congr (g:=fun k=>if k<j+1 then encB (if lb.getD k false then 119 else 110)else .int .u8 0) (fun k hk=>by by_cases h1:k=j;(·exact Qeb);·rw[ZmF h1,ZmF h1];by_cases h2:k<j;(·exact QdD);·rw[ZmF h2,ZmF (show¬k<j+1 by omega)]));have HX1:=ZmE ((hxr.setCell (p:=⟨w2.heap.size,j,none⟩) (ZmK _) (.int .u8 110)).setCell (p:=⟨w2.heap.size,j,none⟩) (ZmK _) (.int .u8 119));clear hrow hbb hst;exact QbJ);·obtain rfl:j=lb.length:=QhN;have hsl:Sl wr (.slice (some ⟨w2.heap.size,0,none⟩) lb.length lb.length) ((Tw.elems lb).map encB):=(Sl.row hrow).congr (by rw[<-Zhz];exact Zpd (fun k hk=>by rw[ZmH (by simpa using hk)]));have hcv:=Zl hsl;have hell:(Tw.elems lb).length=ws.length:=(by rw[Tw.elems,ZmI];exact HLB.out);clear hj hlt hrow hsl HCB hbn hb2;obtain⟨hy4,hy6,hy7⟩:=FY.out wr hxr;obtain⟨E,hE⟩:∃E:ByteArray,Tw.elems lb=E.data.toList:=⟨⟨(Tw.elems lb).toArray⟩,by simp⟩;rw[hE]at HT hcv hell;rw[Zy]at hcv;rw[Zb]at hell;rw[<-hell]at HCT;have HRD1:=ZmE (fun w' hx=>HRD.out w' hx E HCT.out);have HRL:=ZmE (readK_len k E.data.toList check (by rw[Zb];exact HCT.out));clear hE hell HRD;by_cases he:(Tw.readK k E.data.toList).2≠0;(·rw[ZmH he]at HT;have d1:((Tw.readK k E.data.toList).2 !=0)=true:=ZnA.2 he;clear HRL he;generalize Tw.readK k E.data.toList=rd at*;obtain⟨r1,r2⟩:=rd;simp only at d1 HT HRD1;go_wp2_with fail;refine(HRD1.out _ (Above.of_ext _ (hx12.trans hxr))).mono ?_;rintro e w4 ⟨rfl,hx4⟩;go_wp2;go_ret2;exact⟨by rw[HT.out];rfl,(hx1.trans hxr).trans hx4⟩);·rw[ZmF he]at HT;have he0:(Tw.readK k E.data.toList).2=0:=ZnT he;obtain⟨hr1,hr2⟩:=HRL.out he0;rw[he0]at HRD1;clear he he0 HRL;generalize(Tw.readK k E.data.toList).1=ch at*;obtain⟨C,rfl⟩:∃C:ByteArray,ch=C.data.toList:=⟨⟨ch.toArray⟩,by simp⟩;simp only[strV,Zy]at HRD1;rw[Zb]at hr1 hr2;have HTX1:=ZmE (fun w' hx=>HTX.out w' hx C QhN hr1);have htl:=textK_len k C.data.toList check;clear HTX;generalize Tw.textK k C.data.toList check=tx at*;obtain⟨T,rfl⟩:∃C:ByteArray,tx=C.data.toList:=⟨⟨tx.toArray⟩,by simp⟩;simp only[strV,Zy]at HTX1;simp only[Zb]at htl;cases check;(·rw[ZmF (fun h=>Bool.noConfusion h.1)]at HT;clear HCM;go_wp2_with fail;refine(HRD1.out _ (Above.of_ext _ (hx12.trans hxr))).mono ?_;rintro e w4 ⟨rfl,hx4⟩;obtain⟨hq4,hq6,hq7⟩:=FY.out w4 (hxr.trans hx4);go_wp2_with fail;refine(HTX1.out _ (Above.of_ext _ ((hx12.trans hxr).trans hx4))).mono ?_;rintro e w5 ⟨rfl,hx5⟩;go_wp2;go_ret2;exact⟨by rw[HT.out];exact Z8 rfl rfl,((hx1.trans hxr).trans hx4).trans hx5⟩);·have HCM1:=ZmE (fun w' hx=>HCM.out w' hx T QhN);clear HCM;by_cases hcc:Tw.compK k T.data.toList true=(C.data.toList,0);(·rw[ZmF (fun h=>h.2 hcc)]at HT;rw[hcc]at HCM1;simp only[strV,Zy]at HCM1;clear hcc;go_wp2_with fail;refine(HRD1.out _ (Above.of_ext _ (hx12.trans hxr))).mono ?_;rintro e w4 ⟨rfl,hx4⟩;obtain⟨hq4,hq6,hq7⟩:=FY.out w4 (hxr.trans hx4);go_wp2_with fail;refine(HTX1.out _ (Above.of_ext _ ((hx12.trans hxr).trans hx4))).mono ?_;rintro e w5 ⟨rfl,hx5⟩;obtain⟨hp4,hp6,hp7⟩:=FY.out w5 ((hxr.trans hx4).trans hx5);go_wp2_with fail;refine(HCM1.out _ (Above.of_ext _ (((hx12.trans hxr).trans hx4).trans hx5))).mono ?_;rintro e w6 ⟨rfl,hx6⟩;go_wp2;go_ret2;exact⟨by rw[HT.out];exact Z8 rfl rfl,(((hx1.trans hxr).trans hx4).trans hx5).trans hx6⟩);·rw[ZmH ⟨rfl,hcc⟩]at HT;generalize Tw.compK k T.data.toList true=cp at*;obtain⟨x1,x2⟩:=cp;obtain⟨X,rfl⟩:∃C:ByteArray,x1=C.data.toList:=⟨⟨x1.toArray⟩,by simp⟩;simp only[strV,Zy]at HCM1;by_cases hx20:x2=0;(·subst hx20;have hne:(X.toList==C.toList)=false:=(by rw[Znk,Znk,ZmJ];intro h;exact hcc (by rw[h]));clear hcc;exact Qa0);·have hne:(x2 !=0)=true:=ZnA.2 hx20;clear hcc hx20;exact Qa0
theorem Ze0:(prog.info? 92).map (·.size)=some 2:=Qdu
theorem Ziv:liesAt prog prog.depth 92 (2/prog.cellsOf 92) 0 92 1=true:=Qdu
theorem Zdz (b:Nat) (w:World) (h0:w.cell? ⟨b,0,none⟩=some (.pointer (some ⟨b,0,none⟩))):
 Calls prog 101 #[.pointer (some ⟨b,0,none⟩)] w fun e w'=>e=.returned (.tuple #[])∧w'=w:=by
 obtain⟨j,hj,_⟩:=ZoI.1 Ze0
 go_enter func101,ntmps101
 go_wp2
 rw[Lib.run_neq_ptr_same w _ underlying89 hj]
 go_wp2
 go_end0
 exact⟨rfl,rfl⟩
theorem ZcR (b:Nat) (w:World) (h0:w.cell? ⟨b,0,none⟩=some (.pointer none)) (hsh:w.shape? b=some (92,2)) (hfz:w.frozen? ⟨b,0,none⟩=false):
 Calls prog 101 #[.pointer (some ⟨b,0,none⟩)] w fun e w'=>e=.returned (.tuple #[])∧w'=w.setCell ⟨b,0,none⟩ (.pointer (some ⟨b,0,none⟩)):=by
 obtain⟨j,hj,hjs⟩:=ZoI.1 Ze0
 go_enter func101,ntmps101
 go_wp2
 rw[Lib.run_to_unsafe w ⟨b,0,none⟩ underlying89 underlying202 hj (by rw[hjs];decide) hsh (Nat.zero_lt_succ 1)]
 simp only[Result.andThen]
 rw[ZqE]
 go_wp2
 rw[run_callFunc_extern func163 QhO QhO QhO (e:=Extern.AbiNoEscape.same) QhO]
 rw[Lib.run_noEscape]
 simp only[Result.andThen]
 rw[ZqE]
 go_wp2
 rw[Lib.run_from_unsafe w ⟨b,0,none⟩ underlying202 underlying89 hj hsh Ziv]
 simp only[Result.andThen]
 rw[ZqE]
 go_wp2
 go_end0
 exact⟨rfl,rfl⟩
theorem Zej (B b:Nat) (bs:List Value) (w:World) (h:Lib.IsBuilder 92 5 B b bs w):
 Calls prog 101 #[.pointer (some ⟨b,0,none⟩)] w fun e w'=>e=.returned (.tuple #[])∧(Lib.BuilderAt 92 5 B b (.pointer (some ⟨b,0,none⟩)) bs w'∧Below B w w'):=by
 rcases h with h|h
 ·refine(ZcR b w h.cell0 h.shape h.frozen0).mono ?_;rintro e w' ⟨rfl,rfl⟩;exact⟨rfl,h.used _,(ZpM B w).setCell (p:=⟨b,0,none⟩) h.1 _⟩
 ·refine(Zdz b w h.cell0).mono ?_;rintro e w' ⟨rfl,rfl⟩;exact⟨rfl,h,ZpM B _⟩
theorem Zdu (B b:Nat) (bs:List Value) (s:ByteArray) (w:World) (h:Lib.IsBuilder 92 5 B b bs w) (hlen:bs.length+s.size<=140737488355328) (hBw:B<=w.heap.size):
 Calls prog 59 #[.pointer (some ⟨b,0,none⟩),.string s] w fun e w'=>e=.returned (.tuple #[.int .i64 s.size,.nilIface])∧(Lib.IsBuilder 92 5 B b (bs++Lib.strCells s) w'∧Below B w w'):=by
 obtain⟨i0,hi,hz0,hz1,hz2⟩:=ZoJ Zap
 go_enter func59,ntmps59
 go_wp2_with fail
 refine(Zej B b bs _ h).mono ?_
 rintro e w1 ⟨rfl,h1,hb1⟩
 obtain⟨hB,v,hbk,hown,hne⟩:=h1
 have c0:w1.cell? ⟨b,0,none⟩=some (.pointer (some ⟨b,0,none⟩)):=by rw[ZpY hbk];rfl
 have c1:w1.cell? ⟨b,1,none⟩=some v:=by rw[ZpY hbk];rfl
 go_wp2_with (at_builtin;refine Lib.wpList_append_own_string _ rfl _ _ 90 9 rfl B 5 i0 underlying90 underlying9 hi hz0 hz1 hz2 _ _ _ rfl hown s rfl ?c3 ?c4 ?c5 ?_)
 case c3=>exact QeT
 case c4=>omega
 case c5=>have:=hb1.size;omega
 intro v' w2 hown' hgrow _
 have hlt:b<w1.heap.size:=by rcases ZnY b w1.heap.size with h'|h';(·exact h');·simp[Zo3 h']at hbk
 have hb2:w2.heap[b]? =some (.cells #[.pointer (some ⟨b,0,none⟩),v] 92 (0,0)):=by rw[hgrow.block b hlt (fun e=>hne e.symm)];exact hbk
 have d0:w2.cell? ⟨b,0,none⟩=some (.pointer (some ⟨b,0,none⟩)):=by rw[ZpY hb2];rfl
 have d1:w2.cell? ⟨b,1,none⟩=some v:=by rw[ZpY hb2];rfl
 have f1:w2.frozen? ⟨b,1,none⟩=false:=Zqx hb2 1
 obtain⟨ao,n',cap,rfl⟩:∃ao n' cap,v'=.slice ao n' cap:=by rcases hown'.2 with⟨hv,_⟩|⟨g,cap,cur,hv,_⟩;(·exact⟨_,_,_,hv⟩);·exact⟨_,_,_,hv⟩
 go_wp2
 go_ret2
 refine⟨rfl,.inr ?_,?_⟩
 ·exact Lib.BuilderAt.put (T:=92) (e:=5) hB hb2 (bs':=bs++Lib.strCells s) (by simpa[Lib.strCells_length]using hown') QhP
 ·exact(hb1.grown hgrow (by have:=hb1.size;omega) (fun k hk=>(hown.lt k hk).1)).setCell (p:=⟨b,1,none⟩) hB _
theorem Zke {B b:Nat} {bs:List Value} {w w':World} (h:Lib.IsBuilder 92 5 B b bs w) (hx:Ext w w'):Lib.IsBuilder 92 5 B b bs w':=by
 have key:∀p,Lib.BuilderAt 92 5 B b p bs w->Lib.BuilderAt 92 5 B b p bs w':=by
  rintro p ⟨hB,v,hb,hown,hne⟩
  have hlt:b<w.heap.size:=by rcases ZnY b w.heap.size with h'|h';(·exact h');·simp[Zo3 h']at hb
  refine⟨hB,v,by rw[hx.block b hlt];exact hb,hown.kept hx.asGrown ?_,hne⟩
  cases hv:v.ownBlock with
  |none=>exact .inl rfl
  |some k=>exact .inr QhQ
 exact h.elim (fun x=>.inl (key _ x)) (fun x=>.inr (key _ x))
theorem Zj1 (W:World) (g:Nat) (x y:Int) (hg:g=W.heap.size):
 (convert 90 9 (.slice (some ⟨g,0,none⟩) 2 2)).run prog (W.alloc (.cells #[.int .u8 x,.int .u8 y] 5))=.ok (.string (strOfNums [x,y])) (W.alloc (.cells #[.int .u8 x,.int .u8 y] 5)):=by
 subst hg
 refine run_convert_bytes_arg (P:=prog) _ 90 5 underlying90 underlying5 W.heap.size 0 2 2 [x,y] rfl (fun i hi=> ?_) 9 underlying9
 match i,hi with
 |0,_=>simp[go_sem]
 |1,_=>simp[go_sem]
theorem ZeX (W:World) (g:Nat) (x:Int) (hg:g=W.heap.size):
 (convert 90 9 (.slice (some ⟨g,0,none⟩) 1 1)).run prog (W.alloc (.cells #[.int .u8 x] 5))=.ok (.string (strOfNums [x])) (W.alloc (.cells #[.int .u8 x] 5)):=by
 subst hg
 refine run_convert_bytes_arg (P:=prog) _ 90 5 underlying90 underlying5 W.heap.size 0 1 1 [x] rfl (fun i hi=> ?_) 9 underlying9
 match i,hi with
 |0,_=>simp[go_sem]
theorem ZA (c:UInt8):UInt8.ofNat c.toNat=c:=by simp
end
end Go.Proofs.YtbngggoccndefaaGreatDoor
namespace Go.Proofs.YtbngggoccndefaaGreatDoor
open Go.Proofs.Tryz
section
open Go.RowKit Go.WideMaps Go.Maps
def tab:Nat->DataW Unit
 |0=>.map []
 |k+1=>(tab k).put (.string (Tw.rep (UInt8.ofNat k))) (.lit (.int .u8 (k:Int)))
end
end Go.Proofs.YtbngggoccndefaaGreatDoor
namespace Go.Proofs.YtbngggoccndefaaGreatDoor
open Go.Proofs.Tryz
section
open Go.RowKit
theorem Zfd (kind:Int) (v:Value) (ws:List Int) (check:Bool) (w:World) (hv:Sl w v (ws.map encI)) (hl:ws.length<=1000000):
 Calls prog 21 #[.int .i64 kind,v,.bool check] w (DecR (Tw.dec kind ws check) w):=by
 unfold Tw.dec
 split
 ·rename_i h;subst h;exact ZcD 0 5 v ws check w hv hl Zkn
 split
 ·rename_i h;subst h;exact ZcD 1 6 v ws check w hv hl Zko
 split
 ·rename_i h;subst h;exact ZcD 2 7 v ws check w hv hl ZiD
 rename_i h5 h6 h7
 have HF:=ZmE (fun w=>ZiF kind w h5 h6 h7)
 clear h5 h6 h7
 obtain⟨a,c,rfl⟩:=hv.form
 clear hv
 go_enter func21,ntmps21
 go_wp2_with fail
 refine(HF.out _).mono ?_
 rintro e w1 ⟨rfl,hx1⟩
 go_wp2
 go_ret2
 exact⟨rfl,hx1.alloc _⟩
end
end Go.Proofs.YtbngggoccndefaaGreatDoor
