/-
  Laid together.
-/
import Derived.Test.YtbngggoccndefaaGreatDoorDd10
set_option maxHeartbeats 16000000
set_option maxRecDepth 100000
set_option linter.unusedVariables false
set_option linter.unusedSimpArgs false
set_option linter.ambiguousOpen false
namespace Go.Proofs.YtbngggoccndefaaGreatDoor
open Go.Proofs.Tryz
section
open Go.RowKit
theorem Ext.cells {W w1:World} (hb:Ext W w1):(∀b o,b<W.heap.size->w1.cell? ⟨b,o,none⟩=W.cell? ⟨b,o,none⟩)∧(∀b o,b<W.heap.size->w1.frozen? ⟨b,o,none⟩=W.frozen? ⟨b,o,none⟩):=
 ⟨fun b o h=>hb.cell (p:=⟨b,o,none⟩) h,fun b o h=>hb.frozen (p:=⟨b,o,none⟩) h⟩
structure SymFns where
 z:Nat
 pf:Nat
 pc:Array Value
 hf:Nat
 hc:Array Value
 cf:Nat
 cc:Array Value
 mf:Nat
 df:Nat
 dc:Array Value
 rf:Nat
 rr:Array Value
 rc:Array Value
 tf:Nat
def SymFns.val (F:SymFns):Value:=
 .agg #[.int .i64 (F.z:Int),.func (.func F.pf) #[] F.pc,.func (.func F.hf) #[] F.hc,.func (.func F.cf) #[] F.cc,.func (.func F.mf) #[] #[],.func (.func F.df) #[] F.dc,.func (.func F.rf) F.rr F.rc,.func (.func F.tf) #[] #[]]
def Drawable (k:Nat) (l:List UInt8):Prop:=l.length<=10000∧(k=2->l.length%2=0∧∀c∈l,(Tw.pat Tw.cItf Tw.pItf 5 c).1.length=5)
def Zcb (k:Nat):Nat:=3-k
def Above (B:Nat) (w w':World):Prop:=w.heap.size<=w'.heap.size∧∀b o,B<=b->b<w.heap.size->w'.cell? ⟨b,o,none⟩=w.cell? ⟨b,o,none⟩
theorem Above.refl (B:Nat) (w:World):Above B w w:=⟨ZmK _,fun _ _ _ _=>rfl⟩
theorem Above.of_ext {w w':World} (B:Nat) (h:Ext w w'):Above B w w':=⟨h.size,fun b o _ hb=>h.cell (p:=⟨b,o,none⟩) hb⟩
theorem Above.trans {B:Nat} {a b c:World} (h:Above B a b) (k:Above B b c):Above B a c:=
 ⟨ZnF h.1 k.1,fun x o h1 h2=>by rw[k.2 x o h1 (Znc h2 h.1)];exact h.2 x o h1 h2⟩
theorem Above.setCell {B:Nat} {w w':World} (h:Above B w w') {p:Addr} (hp:p.block<B) (u:Value):Above B w (w'.setCell p u):=by refine⟨by simpa using h.1,fun b o h1 h2=> ?_⟩;rw[Zo7 _ _ _ _ (by intro e;subst e;simp only at hp;omega)];exact h.2 b o h1 h2
theorem AlphAt.above {B:Nat} {w w':World} {bc bp bz:Nat} {cs ps:ByteArray} {z:Nat} (h:AlphAt w bc bp bz cs ps z) (hk:Above B w w') (h1:B<=bc) (h2:B<=bp) (h3:B<=bz):AlphAt w' bc bp bz cs ps z:=
 ⟨by rw[hk.2 _ _ h1 h.lc];exact h.c,by rw[hk.2 _ _ h2 h.lp];exact h.p,by rw[hk.2 _ _ h3 h.lz];exact h.z,Znc h.lc hk.1,Znc h.lp hk.1,Znc h.lz hk.1⟩
theorem SpacedAt.above {B:Nat} {w w':World} {z bc bp bz ba be bi bl bm:Nat} {edge inner:ByteArray} {least most:Nat} (h:SpacedAt w z bc bp bz ba be bi bl bm edge inner least most)
 (hk:Above B w w') (h1:B<=ba) (h2:B<=be) (h3:B<=bi) (h4:B<=bl) (h5:B<=bm):SpacedAt w' z bc bp bz ba be bi bl bm edge inner least most:=
 ⟨by rw[hk.2 _ _ h1 h.la];exact h.a0,by rw[hk.2 _ _ h1 h.la];exact h.a1,by rw[hk.2 _ _ h1 h.la];exact h.a2,
  by rw[hk.2 _ _ h2 h.le];exact h.e,by rw[hk.2 _ _ h3 h.li];exact h.i,by rw[hk.2 _ _ h4 h.ll];exact h.l,by rw[hk.2 _ _ h5 h.lm];exact h.m,
  Znc h.la hk.1,Znc h.le hk.1,Znc h.li hk.1,Znc h.ll hk.1,Znc h.lm hk.1⟩
theorem ItfAt.above {B:Nat} {w w':World} {bc bp bz ba bn:Nat} (h:ItfAt w bc bp bz ba bn) (hk:Above B w w') (h1:B<=ba) (h2:B<=bn):ItfAt w' bc bp bz ba bn:=
 ⟨by rw[hk.2 _ _ h1 h.la];exact h.a0,by rw[hk.2 _ _ h1 h.la];exact h.a1,by rw[hk.2 _ _ h2 h.ln];exact h.n,Znc h.la hk.1,Znc h.ln hk.1⟩
def Enters (f:Nat):Prop:=∀xs w,(callFunc f xs).run prog w=.ok (.enter f xs) w
def SymFns.Enter (F:SymFns):Prop:=Enters F.pf∧Enters F.cf∧Enters F.mf∧Enters F.df∧Enters F.rf∧Enters F.tf
structure SymAt (B:Nat) (w:World) (k:Nat) (F:SymFns):Prop where
 pat:∀w',Above B w w'->∀c:UInt8,Calls prog F.pf (#[.int .u8 (c.toNat:Int)]++F.pc) w' fun e w''=>e=.returned (.tuple #[strV (Tw.patK k c).1,.bool (Tw.patK k c).2])∧w'=w''
 counts:∀w',Above B w w'->∀(n:Nat) (check:Bool),n<=9223372036854775806->Calls prog F.cf (#[.int .i64 (n:Int),.bool check]++F.cc) w' fun e w''=>e=.returned (.bool (Tw.countsK k n check))∧w'=w''
 comp:∀w',Above B w w'->∀(s:ByteArray) (check:Bool),s.size<=1000000->Calls prog F.mf #[.string s,.bool check] w' fun e w''=>e=.returned (.tuple #[strV (Tw.compK k s.data.toList check).1,.int .i64 (Tw.compK k s.data.toList check).2])∧Ext w' w''
 draw:∀w',Above B w w'->∀s:ByteArray,Drawable k s.data.toList->Calls prog F.df (#[.string s]++F.dc) w' fun e w''=>e=.returned (strV (Tw.drawK k s.data.toList))∧Ext w' w''
 read:∀w',Above B w w'->∀(s:ByteArray) (check:Bool),Tw.countsK k s.size check=true->Calls prog F.rf (F.rr++ #[.string s]++F.rc) w' fun e w''=>e=.returned (.tuple #[strV (Tw.readK k s.data.toList).1,.int .i64 (Tw.readK k s.data.toList).2])∧Ext w' w''
 text:∀w',Above B w w'->∀(s:ByteArray) (check:Bool),s.size<=1000000->Zcb k<=s.size->Calls prog F.tf #[.string s,.bool check] w' fun e w''=>e=.returned (strV (Tw.textK k s.data.toList check))∧Ext w' w''
 ent:F.Enter
theorem SymAt.above {B:Nat} {w w':World} {k:Nat} {F:SymFns} (h:SymAt B w k F) (hx:Above B w w'):SymAt B w' k F:=
 ⟨fun w1 h1=>h.pat w1 (hx.trans h1),fun w1 h1=>h.counts w1 (hx.trans h1),fun w1 h1=>h.comp w1 (hx.trans h1),fun w1 h1=>h.draw w1 (hx.trans h1),fun w1 h1=>h.read w1 (hx.trans h1),fun w1 h1=>h.text w1 (hx.trans h1),h.ent⟩
def fnsSp (z bc bp bz ba be bi bl bm m t:Nat):SymFns:=
 {z:=z,pf:=236,pc:= #[.pointer (some ⟨bc,0,none⟩),.pointer (some ⟨bp,0,none⟩),.pointer (some ⟨bz,0,none⟩)],
  hf:=237,hc:= #[.pointer (some ⟨bc,0,none⟩),.pointer (some ⟨bp,0,none⟩),.pointer (some ⟨bz,0,none⟩)],
  cf:=233,cc:= #[.pointer (some ⟨ba,0,none⟩),.pointer (some ⟨bl,0,none⟩),.pointer (some ⟨bm,0,none⟩)],mf:=m,
  df:=234,dc:= #[.pointer (some ⟨ba,0,none⟩)],rf:=235,rr:= #[],rc:= #[.pointer (some ⟨ba,0,none⟩),.pointer (some ⟨be,0,none⟩),.pointer (some ⟨bi,0,none⟩)],tf:=t}
def fnsItf (bc bp bz ba bn:Nat):SymFns:=
 {z:=5,pf:=236,pc:= #[.pointer (some ⟨bc,0,none⟩),.pointer (some ⟨bp,0,none⟩),.pointer (some ⟨bz,0,none⟩)],
  hf:=237,hc:= #[.pointer (some ⟨bc,0,none⟩),.pointer (some ⟨bp,0,none⟩),.pointer (some ⟨bz,0,none⟩)],
  cf:=171,cc:= #[.pointer (some ⟨bn,0,none⟩),.pointer (some ⟨ba,0,none⟩)],mf:=172,
  df:=173,dc:= #[.pointer (some ⟨ba,0,none⟩)],rf:=174,rr:= #[alphV 5 bc bp bz],rc:= #[],tf:=175}
theorem ZjF (B:Nat) (w:World) (bc bp bz ba be bi bl bm:Nat) (g1:B<=bc∧B<=bp∧B<=bz) (g2:B<=ba∧B<=be∧B<=bi∧B<=bl∧B<=bm) (cs ps edge inner:ByteArray) (hS:SpacedAt w 9 bc bp bz ba be bi bl bm edge inner 1 1000) (hA:AlphAt w bc bp bz cs ps 9)
 (h1:cs.data.toList=Tw.c39) (h2:ps.data.toList=Tw.p39) (h3:edge.data.toList=[42]) (h4:inner.data.toList=Cd.syms):
 SymAt B w 0 (fnsSp 9 bc bp bz ba be bi bl bm 166 168):=by
 have s1:cs.size=44:=by rw[Zc h1];rfl
 have s2:ps.size=396:=by rw[Zc h2];exact Qct
 refine⟨fun w' hx c=> ?_,fun w' hx n check hn=> ?_,fun w' hx s check hs=> ?_,fun w' hx s hd=> ?_,fun w' hx s check hc=> ?_,fun w' hx s check hs hl=> ?_,?_⟩
 ·have:=Zaf cs ps 9 c bc bp bz w' (hA.above hx g1.1 g1.2.1 g1.2.2) QhN QhN QhN;exact Qhl
 ·exact ZcS 9 bc bp bz ba be bi bl bm edge inner 1 1000 n check w' QhN (hS.above hx g2.1 g2.2.1 g2.2.2.1 g2.2.2.2.1 g2.2.2.2.2) QhN QhN hn
 ·exact Zgu s check w' hs
 ·have:=Zds cs ps 9 bc bp bz ba be bi bl bm edge inner 1 1000 s w' (hS.above hx g2.1 g2.2.1 g2.2.2.1 g2.2.2.2.1 g2.2.2.2.2) (hA.above hx g1.1 g1.2.1 g1.2.2) QhN QhN QhN (by have:=hd.1;rw[Zb]at this;omega);exact Qhl
 ·have hc':Tw.counts 9 1 1000 s.size check=true:=hc;unfold Tw.counts at hc';simp only[Zno,Zna]at hc';have hb:check.toNat<=1:=Bool.toNat_le check;have:=ZlO cs ps bc bp bz ba be bi bl bm edge inner 1 1000 s ((s.size+1)/10) w' (hS.above hx g2.1 g2.2.1 g2.2.2.1 g2.2.2.2.1 g2.2.2.2.2) (hA.above hx g1.1 g1.2.1 g1.2.2) QhN QhN QhN QhN QhN;rw[h1,h2,h3,h4]at this;exact QeN
 ·exact(ZgW s check w' hs hl).mono fun _ _ h=>⟨h.1,h.2▸Ext.refl _⟩
 ·exact Qb0
theorem ZjG (B:Nat) (w:World) (bc bp bz ba be bi bl bm:Nat) (g1:B<=bc∧B<=bp∧B<=bz) (g2:B<=ba∧B<=be∧B<=bi∧B<=bl∧B<=bm) (cs ps edge inner:ByteArray) (hS:SpacedAt w 7 bc bp bz ba be bi bl bm edge inner 0 998) (hA:AlphAt w bc bp bz cs ps 7)
 (h1:cs.data.toList=Tw.cCb) (h2:ps.data.toList=Tw.pCb) (h3:edge.data.toList=Tw.eCb) (h4:inner.data.toList=Tw.dCb):
 SymAt B w 1 (fnsSp 7 bc bp bz ba be bi bl bm 169 170):=by
 have s1:cs.size=20:=by rw[Zc h1];rfl
 have s2:ps.size=140:=by rw[Zc h2];exact Qct
 refine⟨fun w' hx c=> ?_,fun w' hx n check hn=> ?_,fun w' hx s check hs=> ?_,fun w' hx s hd=> ?_,fun w' hx s check hc=> ?_,fun w' hx s check hs hl=> ?_,?_⟩
 ·have:=Zaf cs ps 7 c bc bp bz w' (hA.above hx g1.1 g1.2.1 g1.2.2) QhN QhN QhN;exact Qhl
 ·exact ZcS 7 bc bp bz ba be bi bl bm edge inner 0 998 n check w' QhN (hS.above hx g2.1 g2.2.1 g2.2.2.1 g2.2.2.2.1 g2.2.2.2.2) QhN QhN hn
 ·exact Zgv s check w' hs
 ·have:=Zds cs ps 7 bc bp bz ba be bi bl bm edge inner 0 998 s w' (hS.above hx g2.1 g2.2.1 g2.2.2.1 g2.2.2.2.1 g2.2.2.2.2) (hA.above hx g1.1 g1.2.1 g1.2.2) QhN QhN QhN (by have:=hd.1;rw[Zb]at this;omega);exact Qhl
 ·have hc':Tw.counts 7 0 998 s.size check=true:=hc;unfold Tw.counts at hc';simp only[Zno,Zna]at hc';have hb:check.toNat<=1:=Bool.toNat_le check;have:=ZlN cs ps bc bp bz ba be bi bl bm edge inner 0 998 s ((s.size+1)/8) w' (hS.above hx g2.1 g2.2.1 g2.2.2.1 g2.2.2.2.1 g2.2.2.2.2) (hA.above hx g1.1 g1.2.1 g1.2.2) QhN QhN QhN QhN QhN;rw[h1,h2,h3,h4]at this;exact QeN
 ·exact ZgX s check w' hs hl
 ·exact Qb0
theorem Zih (B:Nat) (w:World) (bc bp bz ba bn:Nat) (g1:B<=bc∧B<=bp∧B<=bz) (g2:B<=ba∧B<=bn) (cs ps:ByteArray) (hI:ItfAt w bc bp bz ba bn) (hA:AlphAt w bc bp bz cs ps 5)
 (h1:cs.data.toList=Tw.cItf) (h2:ps.data.toList=Tw.pItf):SymAt B w 2 (fnsItf bc bp bz ba bn):=by
 have s1:cs.size=10:=by rw[Zc h1];rfl
 have s2:ps.size=50:=by rw[Zc h2];exact Qct
 refine⟨fun w' hx c=> ?_,fun w' hx n check hn=> ?_,fun w' hx s check hs=> ?_,fun w' hx s hd=> ?_,fun w' hx s check hc=> ?_,fun w' hx s check hs hl=> ?_,?_⟩
 ·have:=Zaf cs ps 5 c bc bp bz w' (hA.above hx g1.1 g1.2.1 g1.2.2) QhN QhN QhN;exact Qhl
 ·exact Zek bc bp bz ba bn n check w' (hI.above hx g2.1 g2.2) hn
 ·exact Zfo s check w' hs
 ·have h0:=hd.1;have h3:=hd.2 rfl;rw[Zb]at h0 h3;exact Zfr cs ps bc bp bz ba bn s (s.size/2) w' (hI.above hx g2.1 g2.2) (hA.above hx g1.1 g1.2.1 g1.2.2) h1 h2 QhN QhN h3.2
 ·have hc':Tw.countsItf s.size=true:=hc;unfold Tw.countsItf at hc';simp only[Zno,Zna]at hc';exact ZfA cs ps bc bp bz s ((s.size-7)/10) w' (hA.above hx g1.1 g1.2.1 g1.2.2) h1 h2 QhN QhN QhN
 ·exact ZfL s check w' hs hl
 ·exact Qb0
theorem Zig (w:World):Calls prog 102 #[] w fun e w'=>∃F:SymFns,e=.returned F.val∧SymAt (w.heap.size+1) w' 0 F∧Ext w w':=by
 go_enter func102,ntmps102;go_wp2_with fail;refine(Zaw _ _ 9 _ (.inl ⟨by decide+kernel,by decide+kernel,rfl⟩)).mono ?_;rintro e w1 ⟨bc,bp,bz,rfl,hA1,⟨u1,u2,u3⟩,hx1⟩;go_wp2_with fail;refine(Zdo 9 bc bp bz _ _ 1 1000 _).mono ?_;rintro e w2 ⟨ba,be,bi,bl,bm,rfl,hS2,⟨u4,u5,u6,u7,u8⟩,hx2⟩;unfold spacedV;have hx3:=hx1.trans hx2;obtain⟨hc,hf⟩:=hx3.cells;have hz:w.heap.size<w2.heap.size:=by have:=hx3.size;exact Qdx
 have hz1:=hx1.size;simp at u1 u2 u3 hz1;go_wp2;refine ZnQ (v:=(fnsSp 9 bc bp bz ba be bi bl bm 166 168).val) (by simp[results,results102,go_sem,SymFns.val,fnsSp,hc,hz]) rfl
  ⟨_,rfl,ZjF _ _ bc bp bz ba be bi bl bm ⟨by omega,by omega,by omega⟩ ⟨by omega,by omega,by omega,by omega,by omega⟩ _ _ _ _ (hS2.keep (B:=w.heap.size) ?_ ?_ QhN QhN QhN QhN QhN) ((hA1.ext hx2).keep (B:=w.heap.size) ?_ ?_ QhN QhN QhN) Qib Qib Qib Qib,?_⟩
 all_goals first
  |(
   intro b o h1 h2
   rw[ZpF _ _ _ Qie]
   repeat rw[Zo7 _ _ _ _ Qik])
  |(simp;done)
  |(
   refine Ext.alloc ?_ _
   repeat refine Ext.setCell ?_ (ZmK _) _
   exact Ext.trans ((Ext.refl w).alloc _) hx3)
theorem Zii (w:World):Calls prog 103 #[] w fun e w'=>∃F:SymFns,e=.returned F.val∧SymAt (w.heap.size+1) w' 1 F∧Ext w w':=by
 go_enter func103,ntmps103;go_wp2_with fail;refine(Zaw _ _ 7 _ (.inr (.inl ⟨by decide+kernel,by decide+kernel,rfl⟩))).mono ?_;rintro e w1 ⟨bc,bp,bz,rfl,hA1,⟨u1,u2,u3⟩,hx1⟩;go_wp2_with fail;refine(Zdo 7 bc bp bz _ _ 0 998 _).mono ?_;rintro e w2 ⟨ba,be,bi,bl,bm,rfl,hS2,⟨u4,u5,u6,u7,u8⟩,hx2⟩;unfold spacedV;have hx3:=hx1.trans hx2;obtain⟨hc,hf⟩:=hx3.cells;have hz:w.heap.size<w2.heap.size:=by have:=hx3.size;exact Qdx
 have hz1:=hx1.size;simp at u1 u2 u3 hz1;go_wp2;refine ZnQ (v:=(fnsSp 7 bc bp bz ba be bi bl bm 169 170).val) (by simp[results,results103,go_sem,SymFns.val,fnsSp,hc,hz]) rfl
  ⟨_,rfl,ZjG _ _ bc bp bz ba be bi bl bm ⟨by omega,by omega,by omega⟩ ⟨by omega,by omega,by omega,by omega,by omega⟩ _ _ _ _ (hS2.keep (B:=w.heap.size) ?_ ?_ QhN QhN QhN QhN QhN) ((hA1.ext hx2).keep (B:=w.heap.size) ?_ ?_ QhN QhN QhN) Qib Qib Qib Qib,?_⟩
 all_goals first
  |(
   intro b o h1 h2
   rw[ZpF _ _ _ Qie]
   repeat rw[Zo7 _ _ _ _ Qik])
  |(simp;done)
  |(
   refine Ext.alloc ?_ _
   repeat refine Ext.setCell ?_ (ZmK _) _
   exact Ext.trans ((Ext.refl w).alloc _) hx3)
theorem ZgU (w:World):Calls prog 104 #[] w fun e w'=>∃F:SymFns,e=.returned F.val∧SymAt (w.heap.size+1) w' 2 F∧Ext w w':=by
 go_enter func104,ntmps104;go_wp2_with fail;refine(Zaw _ _ 5 _ (.inr (.inr ⟨by decide+kernel,by decide+kernel,rfl⟩))).mono ?_;rintro e w1 ⟨bc,bp,bz,rfl,hA1,⟨u1,u2,u3⟩,hx1⟩;unfold alphV;obtain⟨hc,hf⟩:=hx1.cells;have hz:w.heap.size<w1.heap.size:=by have:=hx1.size;exact Qdx
 have hx3:=hx1;simp at u1 u2 u3;go_wp2;refine ZnQ (v:=(fnsItf bc bp bz w1.heap.size (w1.heap.size+1)).val) (by simp[results,results104,go_sem,SymFns.val,fnsItf,alphV,hc,hz]) rfl
  ⟨_,rfl,Zih _ _ bc bp bz w1.heap.size (w1.heap.size+1) ⟨by omega,by omega,by omega⟩ ⟨by omega,by omega⟩ _ _ ⟨by simp[go_sem],by simp[go_sem],by simp[go_sem],by simp;omega,by simp⟩ (hA1.keep (B:=w.heap.size) ?_ ?_ QhN QhN QhN) Qib Qib,?_⟩
 all_goals first
  |(
   intro b o h1 h2
   rw[ZpF _ _ _ QhY,ZpF _ _ _ Qie]
   repeat rw[Zo7 _ _ _ _ Qik])
  |(simp;omega)
  |(
   refine Ext.alloc (Ext.alloc ?_ _) _
   repeat refine Ext.setCell ?_ (ZmK _) _
   exact Ext.trans ((Ext.refl w).alloc _) hx3)
def TwFound (k:Nat) (w:World) (e:Ending) (w':World):Prop:=∃(B:Nat) (F:SymFns),e=.returned (.tuple #[F.val,.bool true])∧SymAt B w' k F∧Ext w w'
theorem Zkn (w:World):Calls prog 62 #[.int .i64 5] w (TwFound 0 w):=by go_enter func62,ntmps62;go_wp2_with fail;refine(Zig _).mono ?_;exact Qan
theorem Zko (w:World):Calls prog 62 #[.int .i64 6] w (TwFound 1 w):=by go_enter func62,ntmps62;go_wp2_with fail;refine(Zii _).mono ?_;exact Qan
theorem ZiD (w:World):Calls prog 62 #[.int .i64 7] w (TwFound 2 w):=by go_enter func62,ntmps62;go_wp2_with fail;refine(ZgU _).mono ?_;exact Qan
theorem ZiF (kind:Int) (w:World) (h5:kind≠5) (h6:kind≠6) (h7:kind≠7):Calls prog 62 #[.int .i64 kind] w fun e w'=>e=.returned (.tuple #[.agg #[.int .i64 0,.nilFunc,.nilFunc,.nilFunc,.nilFunc,.nilFunc,.nilFunc,.nilFunc],.bool false])∧Ext w w':=by have d5:(kind==5)=false:=ZmJ.2 h5;have d6:(kind==6)=false:=ZmJ.2 h6;have d7:(kind==7)=false:=ZmJ.2 h7;clear h5 h6 h7;go_enter func62,ntmps62;go_wp2;refine ZnQ (v:=.tuple #[.agg #[.int .i64 0,.nilFunc,.nilFunc,.nilFunc,.nilFunc,.nilFunc,.nilFunc,.nilFunc],.bool false]) (by simp[results,results62,go_sem]) rfl ⟨rfl,Xe⟩
theorem Zic (w:World):Sl w (.slice none 0 0) []:=.inl ⟨rfl,_,_,rfl⟩
theorem ZgY (k:Int) (l:List UInt8) (h:(Cd.compI k l).2=0):(Cd.compI k l).1=Cd.cmp k.toNat l:=by
 unfold Cd.compI at h⊢;split;·rename_i h1;rw[ZmH h1]at h;simp at h
 ·rename_i h1
  rw[ZmF h1]at h
  unfold Cd.comp at h⊢
  repeat' split
  all_goals first|rfl|(simp_all;done)
theorem ZbM (l:List Int):∀a:Int,l.foldl min a=a∨l.foldl min a∈l:=by
 induction l with
 |nil=>intro a;simp
 |cons y l ih=>intro a;simp only[ZmX];rcases ih (min a y)with h|h;(·rw[h];rcases Int.le_total a y with h1|h1;(·exact .inl QhN);·exact .inr (by rw[show min a y=y by omega];exact Znh ..));·exact .inr (Zne _ h)
theorem ZbL (l:List Int):∀a:Int,l.foldl max a=a∨l.foldl max a∈l:=by
 induction l with
 |nil=>intro a;simp
 |cons y l ih=>intro a;simp only[ZmX];rcases ih (max a y)with h|h;(·rw[h];rcases Int.le_total a y with h1|h1;(·exact .inr (by rw[show max a y=y by omega];exact Znh ..));·exact .inl QhN);·exact .inr (Zne _ h)
theorem ZbY {ws:List Int} (h:ws≠ []):ws.getD 0 0∈ws:=by
 cases ws with
 |nil=>exact absurd rfl h
 |cons y l=>simp
theorem Zlx {ws:List Int} (h:ws≠ []):Tw.lo ws∈ws:=by
 unfold Tw.lo;rcases ZbM ws (ws.getD 0 0)with e|e;·rw[e];exact ZbY h
 ·exact e
theorem Zlq {ws:List Int} (h:ws≠ []):Tw.hi ws∈ws:=by
 unfold Tw.hi;rcases ZbL ws (ws.getD 0 0)with e|e;·rw[e];exact ZbY h
 ·exact e
theorem ZaD {ws:List Int} (h:Tw.inRng ws=true) {x:Int} (hx:x∈ws):1<=x∧x<=65536:=by unfold Tw.inRng at h;rw[Znd]at h;have:=h x hx;exact QfH
theorem ZjV (ws l:List Int) (h:∀x∈l,1<=x∧x<=65536) (h2:1<=Tw.hi ws∧Tw.hi ws<=65536):1<=Tw.leastWide ws l∧Tw.leastWide ws l<=65536:=by
 unfold Tw.leastWide
 generalize Tw.hi ws=a at h2⊢
 induction l generalizing a with
 |nil=>exact h2
 |cons y l ih=>exact QdN
theorem ZjX (ws l:List Int) (h:∀x∈l,1<=x∧x<=65536) (h2:1<=Tw.lo ws∧Tw.lo ws<=65536):1<=Tw.mostNarrow ws l∧Tw.mostNarrow ws l<=65536:=by
 unfold Tw.mostNarrow
 generalize Tw.lo ws=a at h2⊢
 induction l generalizing a with
 |nil=>exact h2
 |cons y l ih=>exact QdN
theorem ZaR (ws:List Int) (j:Nat) (h:j<ws.length):ws.take (j+1)=ws.take j++[ws.getD j 0]:=by rw[ZnL h,ZmL,ZmG h];rfl
theorem Zb5 (ws:List Int) (j:Nat) (h:j<ws.length):ws.getD j 0∈ws:=by rw[ZmL,ZmG h];exact QhG
theorem Zgg (ws l:List Int) (x:Int):Tw.leastWide ws (l++[x])=if Tw.isWide ws x then min (Tw.leastWide ws l) x else Tw.leastWide ws l:=by simp[Tw.leastWide]
theorem Zgi (ws l:List Int) (x:Int):Tw.mostNarrow ws (l++[x])=if Tw.isWide ws x then Tw.mostNarrow ws l else max (Tw.mostNarrow ws l) x:=by simp[Tw.mostNarrow]
theorem Zmk (ws:List Int):Tw.lo ws=Lib.minOf ws:=by cases ws<;>rfl
theorem Zmg (ws:List Int):Tw.hi ws=Lib.maxOf ws:=by cases ws<;>rfl
theorem Zc2 (b off cap:Nat) (ws:List Int) (w:World) (hc:∀j,j<ws.length->w.cell? ⟨b,off+j,none⟩=some (.int .i64 (ws.getD j 0))) (hl:ws.length<=1000000000):
 Calls prog 105 #[.slice (some ⟨b,off,none⟩) ws.length cap] w fun e w'=>e=.returned (.bool (Tw.inRng ws))∧w=w':=by
 have HC:=ZmE hc
 have HT:=ZmE (Tw.inRng.eq_1 ws)
 generalize Tw.inRng ws=res at*
 clear hc
 go_enter func105,ntmps105
 go_wp2
 go_loop [7] (fun i=>∃j:Nat,j<=ws.length∧i=.int .i64 (j:Int)∧Hid (∀x∈ws.take j,1<=x∧x<=65536)) (fun i=>ws.length-(intOf i).toNat)
 case atStart=>exact Qcy
 case round=>obtain⟨j,hj,rfl,HB⟩:=hrel;by_cases hlt:j<ws.length;(·have hcj:=HC.out j hlt;have HM:=ZmE (Zb5 ws j hlt);have HTA:=ZmE (ZaR ws j hlt);generalize ws.getD j 0=x at*;by_cases hx:1<=x∧x<=65536;(·obtain⟨hx1,hx2⟩:=hx;go_wp2;go_round;(case rel=>exact⟨j+1,by omega,by go_num,ZmE (fun y hy=>by rw[HTA.out,ZnR]at hy;rcases hy with h|h;(·exact HB.out y h);·rw[Znz]at h;subst h;omega)⟩);case measure=>exact Q8);·have HN:Hid (res=false):=ZmE Qji;by_cases h1:x<1;(·clear hx;exact QeL);·have h2:65536<x:=QhN;clear hx;exact QeL);·obtain rfl:j=ws.length:=QhN;rw[ZnN]at HB;have HN:Hid (res=true):=ZmE Qjj;clear hj hlt;exact QeL
def WideR (r:List Bool×Int) (w:World) (e:Ending) (w':World):Prop:=∃v,e=.returned (.tuple #[v,.int .i64 r.2])∧Sl w' v (r.1.map encT)∧Ext w w'
theorem Zff (v:Value) (ws:List Int) (w:World) (hv:Sl w v (ws.map encI)) (hl:ws.length<=1000000):
 Calls prog 63 #[v] w (WideR (Tw.wide ws) w):=by
 have HT:=ZmE (Tw.wide.eq_1 ws)
 generalize Tw.wide ws=res at*
 by_cases h0:ws=[]
 ·rw[ZmH h0]at HT;subst h0;obtain⟨a,c,rfl⟩:=hv.form;simp only[ZoU,ZnE];clear hv;go_enter func63,ntmps63;exact QeC
 ·rw[ZmF h0]at HT;rcases hv with⟨h1,_⟩|⟨b,off,cap,rfl,hb,hcell⟩;(·exact absurd Qim h0);rw[ZmI]at hcell⊢;have hpos:0<ws.length:=Zob.2 h0;have hlb:((ws.length:Int)==0)=false:=ZmJ.2 QhN;have HC:Hid (∀w',Ext w w'->∀j,j<ws.length->w'.cell? ⟨b,off+j,none⟩=some (.int .i64 (ws.getD j 0))):=ZmE (fun w' hx j hj=>by rw[hx.cell (p:=⟨b,off+j,none⟩) hb,hcell j hj,Znm,ZmL,ZmG hj];rfl);have HI:=ZmE (fun w' hx=>Zc2 b off cap ws w' (HC.out w' hx) QhN);have HLO:=ZmE (Zlx h0);have HHI:=ZmE (Zlq h0);clear hcell h0;cases hrg:Tw.inRng ws;(·rw[hrg]at HI HT;rw[ZmH rfl]at HT;clear hrg;go_enter func63,ntmps63;go_wp2_with fail;refine(HI.out _ (Ext.refl _)).mono ?_;rintro e w1 ⟨rfl,rfl⟩;exact QeC)
  ·have HR:=ZmE (fun x hx=>ZaD hrg (x:=x) hx);rw[hrg]at HI HT;rw[ZmF Bool.noConfusion]at HT;clear hrg;have hmk:=Zpa (P:=prog) 26 4 (.bool false) 1 underlying26 QhO rfl .i64 .i64 ws.length QhN QhN;have HMIN:Hid (∀w',Ext w w'->Calls prog 106 #[.slice (some ⟨b,off,none⟩) ws.length cap] w' fun e w''=>e=.returned (.int .i64 (Tw.lo ws))∧w'=w''):=ZmE (fun w' hx=>by have:=Tryz.slices_Min_int b off ws.length cap ws w' hpos (ZmK _) QhN (HC.out w' hx);rw[ZnN,<-Zmk]at this;exact this.mono fun _ _ h=>⟨h.1,h.2.symm⟩);have HMAX:Hid (∀w',Ext w w'->Calls prog 107 #[.slice (some ⟨b,off,none⟩) ws.length cap] w' fun e w''=>e=.returned (.int .i64 (Tw.hi ws))∧w'=w''):=ZmE (fun w' hx=>by have:=Tryz.slices_Max_int b off ws.length cap ws w' hpos (ZmK _) QhN (HC.out w' hx);rw[ZnN,<-Zmg]at this;exact this.mono fun _ _ h=>⟨h.1,h.2.symm⟩);have hlo:=HR.out _ HLO.out;have hhi:=HR.out _ HHI.out;obtain⟨hlo1,hlo2⟩:=hlo;obtain⟨hhi1,hhi2⟩:=hhi;have HW:Hid (∀x,Tw.isWide ws x=decide (Tw.lo ws+Tw.hi ws<2*x)):=ZmE (fun x=>rfl);have HLW:=ZmE (fun j=>ZjV ws (ws.take j) (fun x hx=>HR.out x (Zn0 hx)) ⟨hhi1,hhi2⟩);have HMN:=ZmE (fun j=>ZjX ws (ws.take j) (fun x hx=>HR.out x (Zn0 hx)) ⟨hlo1,hlo2⟩);have HL0:Hid (Tw.leastWide ws []=Tw.hi ws∧Tw.mostNarrow ws []=Tw.lo ws):=ZmE ⟨rfl,rfl⟩;clear HLO HHI;generalize Tw.lo ws=lo at*;generalize Tw.hi ws=hi at*;by_cases h23:2*hi<3*lo;(·rw[ZmH h23]at HT;go_enter func63,ntmps63;go_wp2_with fail;refine(HI.out _ (Ext.refl _)).mono ?_;rintro e w1 ⟨rfl,rfl⟩;go_wp2_with fail;refine(HMIN.out _ Xe).mono ?_;rintro e w1 ⟨rfl,rfl⟩;go_wp2_with fail;refine(HMAX.out _ Xe).mono ?_;rintro e w1 ⟨rfl,rfl⟩;go_wp2;go_ret2;refine⟨.slice (some ⟨w.heap.size,0,none⟩) ws.length ws.length,by rw[HT.out];rfl,?_,Xe⟩;rw[HT.out];refine(Sl.row (Zps w (.bool false) ws.length 4)).congr ?_;apply ZoK;(·simp);·intro i h1 h2;simp[encT])
   ·rw[ZmF h23]at HT;go_enter func63,ntmps63;go_wp2_with fail;refine(HI.out _ (Ext.refl _)).mono ?_;rintro e w1 ⟨rfl,rfl⟩;go_wp2_with fail;refine(HMIN.out _ Xe).mono ?_;rintro e w1 ⟨rfl,rfl⟩;go_wp2_with fail;refine(HMAX.out _ Xe).mono ?_;rintro e w1 ⟨rfl,rfl⟩;go_wp2;clear hmk;go_loopw [34,7,8] (fun i a c wr=>∃j:Nat,j<=ws.length∧i=.int .i64 (j:Int)∧a=.int .i64 (Tw.leastWide ws (ws.take j))∧c=.int .i64 (Tw.mostNarrow ws (ws.take j))∧wr.rowIs w.heap.size 4 ws.length (fun k=>if k<j then encT (Tw.isWide ws (ws.getD k 0))else .bool false)∧Ext w wr) (fun i _ _ _=>ws.length-(intOf i).toNat);(case atStart=>refine⟨0,ZmP _,rfl,?_,?_,(Zps w _ _ _).congr (fun i _=>by simp),Xe⟩;(·rw[Zpp,HL0.out.1]);·rw[Zpp,HL0.out.2]);case round=>
     obtain⟨j,hj,rfl,rfl,rfl,hrow,hxr⟩:=hrel;obtain⟨b1,b2⟩:=HLW.out j;obtain⟨b3,b4⟩:=HMN.out j;by_cases hlt:j<ws.length
     ·have hcj:=hrow.cell hlt;have hfj:=hrow.frozen j;have hwj:=HC.out wr hxr j hlt;obtain⟨b5,b6⟩:=HR.out _ (Zb5 ws j hlt);have HS1:=ZmE (Zgg ws (ws.take j) (ws.getD j 0));have HS2:=ZmE (Zgi ws (ws.take j) (ws.getD j 0));rw[<-ZaR ws j hlt]at HS1 HS2;have HWJ:=ZmE (HW.out (ws.getD j 0));have hbn:b≠w.heap.size:=QhN;have HRW:∀bb,Tw.isWide ws (ws.getD j 0)=bb->Hid ((wr.setCell ⟨w.heap.size,j,none⟩ (.bool bb)).rowIs w.heap.size 4 ws.length (fun k=>if k<j+1 then encT (Tw.isWide ws (ws.getD k 0))else .bool false)):=fun bb hbb=>
       ZmE ((hrow.set j (.bool bb)).congr (fun k hk=>by by_cases h1:k=j;(·exact Qeb);·rw[ZmF h1];by_cases h2:k<j;(·exact QdD);·rw[ZmF h2,ZmF (show¬k<j+1 by omega)]))
      have HX:=ZmE (fun u=>hxr.setCell (p:=⟨w.heap.size,j,none⟩) (ZmK _) u);generalize Tw.leastWide ws (ws.take j)=lw at*;generalize Tw.mostNarrow ws (ws.take j)=mn at*;by_cases hw:lo+hi<2*ws.getD j 0;(·have hiw:Tw.isWide ws (ws.getD j 0)=true:=(by rw[HWJ.out];simpa using hw);have HR1:=HRW true hiw;rw[hiw,ZmH rfl]at HS1 HS2;exact QcR);·have hiw:Tw.isWide ws (ws.getD j 0)=false:=(by rw[HWJ.out];simpa using hw);have HR1:=HRW false hiw;rw[hiw,ZmF Bool.noConfusion]at HS1 HS2;exact QcR
     ·obtain rfl:j=ws.length:=QhN;rw[ZnN]at b1 b2 b3 b4⊢;have hsl:=Sl.row hrow;clear hj hlt hrow;generalize Tw.leastWide ws ws=lw at*;generalize Tw.mostNarrow ws ws=mn at*;by_cases h5:2*lw<3*mn;(·rw[ZmH h5]at HT;go_wp2;go_ret2;exact⟨.slice none 0 0,by rw[HT.out];rfl,by rw[HT.out];exact Zic _,hxr⟩);·rw[ZmF h5]at HT;go_wp2;go_ret2;refine⟨.slice (some ⟨w.heap.size,0,none⟩) ws.length ws.length,by rw[HT.out];rfl,?_,hxr⟩;rw[HT.out];refine hsl.congr ?_;apply ZoK;(·simp);·intro i h1 h2;simp at h1;simp[h1]
theorem Zio (b off cap:Nat) (ws:List Int) (w:World) (hc:∀j,j<ws.length->w.cell? ⟨b,off+j,none⟩=some (.int .i64 (ws.getD j 0))) (hl:ws.length<=1000000):
 Calls prog 130 #[.slice (some ⟨b,off,none⟩) ws.length cap] w fun e w'=>∃t:Int,e=.returned (.int .i64 t)∧w=w'∧Hid (decide (t<0)= !Tw.inRng ws):=by
 have HC:=ZmE hc
 have HT:=ZmE (Tw.inRng.eq_1 ws)
 generalize Tw.inRng ws=res at*
 clear hc
 go_enter func130,ntmps130
 go_wp2
 go_loop [4,3] (fun i s=>∃(j:Nat) (t:Int),j<=ws.length∧i=.int .i64 (j:Int)∧s=.int .i64 t∧0<=t∧t<=65536*(j:Int)∧Hid (∀x∈ws.take j,1<=x∧x<=65536)) (fun i _=>ws.length-(intOf i).toNat)
 case atStart=>exact⟨0,0,ZmP _,rfl,rfl,by omega,by omega,ZmE (fun x hx=>by simp at hx)⟩
 case round=>obtain⟨j,t,hj,rfl,rfl,ht0,ht1,HB⟩:=hrel;by_cases hlt:j<ws.length;(·have hcj:=HC.out j hlt;have HM:=ZmE (Zb5 ws j hlt);have HTA:=ZmE (ZaR ws j hlt);generalize ws.getD j 0=x at*;by_cases hx:1<=x∧x<=65536;(·obtain⟨hx1,hx2⟩:=hx;go_wp2;go_round;(case rel=>exact⟨j+1,t+x,by omega,by go_num,rfl,by omega,by omega,ZmE (fun y hy=>by rw[HTA.out,ZnR]at hy;rcases hy with h|h;(·exact HB.out y h);·rw[Znz]at h;subst h;omega)⟩);case measure=>exact Q8);·have HN:Hid (res=false):=ZmE Qji;by_cases h1:x<1;(·exact QfR);·have h2:65536<x:=QhN;exact QfR);·obtain rfl:j=ws.length:=QhN;rw[ZnN]at HB;have HN:Hid (res=true):=ZmE Qjj;clear hj hlt;go_wp2;go_ret;exact⟨t,rfl,rfl,by rw[HN.out];show decide (t<0)=false;simpa using ht0⟩
theorem Zjc (l:List Int) (a x:Int):(l++[x]).foldl min a=min (l.foldl min a) x:=by simp
theorem Zjb (l:List Int) (a x:Int):(l++[x]).foldl max a=max (l.foldl max a) x:=by simp
theorem Zks (ws:List Int) (h:∀x∈ws,1<=x∧x<=65536) (a:Int) (ha:1<=a∧a<=65536) (j:Nat):
 (1<=(ws.take j).foldl min a∧(ws.take j).foldl min a<=65536)∧(1<=(ws.take j).foldl max a∧(ws.take j).foldl max a<=65536):=by
 constructor
 ·rcases ZbM (ws.take j) a with e|e;(·rw[e];exact ha);·exact h _ (Zn0 e)
 ·rcases ZbL (ws.take j) a with e|e;(·rw[e];exact ha);·exact h _ (Zn0 e)
def RWideR (r:List Bool×Int) (w:World) (e:Ending) (w':World):Prop:=∃v,e=.returned (.tuple #[v,.int .i64 r.2])∧Own 4 w' w.heap.size v (r.1.map encT)∧Ext w w'
theorem Zci (v:Value) (ws:List Int) (w:World) (hv:Sl w v (ws.map encI)) (hl:ws.length<=1000000):
 Calls prog 149 #[v] w (RWideR (Tw.wide ws) w):=by
 have HT:=ZmE (Tw.wide.eq_1 ws)
 generalize Tw.wide ws=res at*
 by_cases h0:ws=[]
 ·rw[ZmH h0]at HT;subst h0;obtain⟨a,c,rfl⟩:=hv.form;simp only[ZoU,ZnE];clear hv;go_enter func149,ntmps149;exact Qeq
 rw[ZmF h0]at HT
 rcases hv with⟨h1,_⟩|⟨b,off,cap,rfl,hb,hcell⟩
 ·exact absurd Qim h0
 rw[ZmI]at hcell⊢
 have hpos:0<ws.length:=Zob.2 h0
 have hlb:((ws.length:Int)==0)=false:=ZmJ.2 QhN
 have HC:Hid (∀w',Ext w w'->∀j,j<ws.length->w'.cell? ⟨b,off+j,none⟩=some (.int .i64 (ws.getD j 0))):=ZmE (fun w' hx j hj=>by rw[hx.cell (p:=⟨b,off+j,none⟩) hb,hcell j hj,Znm,ZmL,ZmG hj];rfl)
 have HI:=ZmE (fun w' hx=>Zio b off cap ws w' (HC.out w' hx) QhN)
 have HM0:=ZmE (ZbY h0)
 clear hcell h0
 cases hrg:Tw.inRng ws
 ·rw[hrg]at HI HT;rw[ZmH rfl]at HT;clear hrg;go_enter func149,ntmps149;go_wp2_with fail;refine(HI.out _ (Ext.refl _)).mono ?_;rintro e w1 ⟨t,rfl,rfl,HD⟩;have d1:decide (t<0)=true:=HD.out;exact Qeq
 have HR:=ZmE (fun x hx=>ZaD hrg (x:=x) hx)
 rw[hrg]at HI HT
 rw[ZmF Bool.noConfusion]at HT
 clear hrg
 have hm0:=HR.out _ HM0.out
 have HFI:=ZmE (fun j=>Zks ws HR.out (ws.getD 0 0) hm0 j)
 have HLO:Hid (Tw.lo ws=(ws.take ws.length).foldl min (ws.getD 0 0)):=ZmE (by rw[ZnN];rfl)
 have HHI:Hid (Tw.hi ws=(ws.take ws.length).foldl max (ws.getD 0 0)):=ZmE (by rw[ZnN];rfl)
 have HW:Hid (∀x,Tw.isWide ws x=decide (Tw.lo ws+Tw.hi ws<2*x)):=ZmE (fun x=>rfl)
 have hc0:=HC.out w (Ext.refl _) 0 hpos
 rw[Zoc]at hc0
 clear hm0
 go_enter func149,ntmps149
 go_wp2_with fail
 refine(HI.out _ (Ext.refl _)).mono ?_
 rintro e w1 ⟨t,rfl,rfl,HD⟩
 have d1:decide (t<0)=false:=HD.out
 generalize hw0:ws.getD 0 0=w0 at*
 go_wp2
 go_region
 go_wp2
 go_loopw [6,4,5] (fun i l h wr=>∃j:Nat,j<=ws.length∧i=.int .i64 (j:Int)∧l=.int .i64 ((ws.take j).foldl min w0)∧h=.int .i64 ((ws.take j).foldl max w0)∧Ext w wr) (fun i _ _ _=>ws.length-(intOf i).toNat)
 case atStart=>exact⟨0,ZmP _,rfl,rfl,rfl,by exact(Ext.refl w).drewN _⟩
 case round=>obtain⟨j,hj,rfl,rfl,rfl,hxr⟩:=hrel;by_cases hlt:j<ws.length;(·have hcj:=HC.out wr hxr j hlt;have HTA:=ZmE (ZaR ws j hlt);have HS1:=ZmE (Zjc (ws.take j) w0 (ws.getD j 0));have HS2:=ZmE (Zjb (ws.take j) w0 (ws.getD j 0));rw[<-HTA.out]at HS1 HS2;generalize(ws.take j).foldl min w0=lo at*;generalize(ws.take j).foldl max w0=hi at*;generalize ws.getD j 0=x at*;go_wp2;go_roundw;(case rel=>exact⟨j+1,by omega,by go_num,by rw[HS1.out],by rw[HS2.out],hxr⟩);case measure=>exact Q8);·obtain rfl:j=ws.length:=QhN;obtain⟨⟨l1,l2⟩,h1,h2⟩:=HFI.out ws.length;have HL0:Hid (Tw.leastWide ws []=Tw.hi ws∧Tw.mostNarrow ws []=Tw.lo ws):=ZmE ⟨rfl,rfl⟩;have HLB:=ZmE (fun(j:Nat) (hh:1<=Tw.hi ws∧Tw.hi ws<=65536) (hh2:1<=Tw.lo ws∧Tw.lo ws<=65536)=>And.intro (ZjV ws (ws.take j) (fun x hx=>HR.out x (Zn0 hx)) hh) (ZjX ws (ws.take j) (fun x hx=>HR.out x (Zn0 hx)) hh2));rw[<-HLO.out,<-HHI.out]at*;clear hj hlt HFI HLO HHI;generalize Tw.lo ws=lo at*;generalize Tw.hi ws=hi at*;have HLB2:=ZmE (fun j=>HLB.out j ⟨h1,h2⟩ ⟨l1,l2⟩);clear HLB;by_cases h23:2*hi<3*lo;(·rw[ZmH h23]at HT;have d23:decide (3*lo<=2*hi)=false:=Qcm;go_wp2;go_loopw [10,7,8] (fun i c n wr=>∃(j:Nat) (nn:Int),j<=ws.length∧i=.int .i64 (j:Int)∧n=.int .i64 nn∧Own 4 wr w.heap.size c (((ws.take j).map fun _=>false).map encT)∧Ext w wr) (fun i _ _ _=>ws.length-(intOf i).toNat);(case atStart=>exact⟨0,lo,ZmP _,rfl,rfl,Own.nil _ _ _,hxr⟩);case round=>clear hxr;obtain⟨j,nn,hj,rfl,rfl,hown,hxr⟩:=hrel;by_cases hlt:j<ws.length;(·have hgl:((ws.take j).map fun _=>false).length<=1000000:=Qc2;have HTS:Hid ((ws.take (j+1)).map (fun _=>false)=(ws.take j).map (fun _=>false)++[false]):=ZmE Qj4;generalize(ws.take j).map (fun _=>false)=got at*;go_wp2_with (at_builtin;refine ZH rfl _ _ rfl w.heap.size _ got rfl (hown.alloc _) _ false rfl ?c1 ?c2 ?c3 ?_);(case c1=>exact QeO);(case c2=>omega);(case c3=>have:=hxr.size;exact Qfp);intro v' w5 hown5 hg5;have hx5:=(hxr.alloc _).ofGrown hg5 hown.low;have hcj:=HC.out w5 hx5 j hlt;generalize ws.getD j 0=x at*;clear hown hg5 hxr;go_wp2;go_roundw;(case rel=>exact⟨j+1,_,by omega,by go_num,rfl,by rw[HTS.out,Zn1];exact hown5,hx5⟩);case measure=>exact Q8);·obtain rfl:j=ws.length:=QhN;rw[ZnN]at hown;have hsl:=hown;clear hj hlt hown;exact Qfm);·rw[ZmF h23]at HT;have d23:decide (3*lo<=2*hi)=true:=Qcm;go_wp2;go_loopw [10,7,9,8] (fun i c wd n wr=>∃j:Nat,j<=ws.length∧i=.int .i64 (j:Int)∧wd=.int .i64 (Tw.leastWide ws (ws.take j))∧n=.int .i64 (Tw.mostNarrow ws (ws.take j))∧Own 4 wr w.heap.size c (((ws.take j).map (Tw.isWide ws)).map encT)∧Ext w wr) (fun i _ _ _ _=>ws.length-(intOf i).toNat);(case atStart=>exact⟨0,ZmP _,rfl,by rw[Zpp,HL0.out.1],by rw[Zpp,HL0.out.2],Own.nil _ _ _,hxr⟩);case round=>clear hxr;obtain⟨j,hj,rfl,rfl,rfl,hown,hxr⟩:=hrel;obtain⟨⟨b1,b2⟩,b3,b4⟩:=HLB2.out j;by_cases hlt:j<ws.length;(·have hgl:((ws.take j).map (Tw.isWide ws)).length<=1000000:=Qc2;have HTS:Hid ((ws.take (j+1)).map (Tw.isWide ws)=(ws.take j).map (Tw.isWide ws)++[Tw.isWide ws (ws.getD j 0)]):=ZmE Qj4;have HS1:=ZmE (Zgg ws (ws.take j) (ws.getD j 0));have HS2:=ZmE (Zgi ws (ws.take j) (ws.getD j 0));rw[<-ZaR ws j hlt]at HS1 HS2;obtain⟨b5,b6⟩:=HR.out _ (Zb5 ws j hlt);have hcj0:=HC.out wr hxr j hlt;have HCJ:=ZmE (fun w' hx=>HC.out w' hx j hlt);obtain⟨iw,hiw⟩:∃iw,Tw.isWide ws (ws.getD j 0)=iw:=⟨_,rfl⟩;have diw:decide (lo+hi<2*ws.getD j 0)=iw:=(by rw[<-hiw,HW.out]);rw[hiw]at HTS HS1 HS2;generalize(ws.take j).map (Tw.isWide ws)=got at*;generalize Tw.leastWide ws (ws.take j)=lw at*;generalize Tw.mostNarrow ws (ws.take j)=mn at*;generalize ws.getD j 0=x at*;clear hiw;cases iw;(·go_wp2_with (at_builtin;refine ZH rfl _ _ rfl w.heap.size _ got rfl (hown.alloc _) _ false rfl ?c1 ?c2 ?c3 ?_);(case c1=>exact QeO);(case c2=>omega);(case c3=>have:=hxr.size;exact Qfp);exact QbX);·go_wp2_with (at_builtin;refine ZH rfl _ _ rfl w.heap.size _ got rfl (hown.alloc _) _ true rfl ?c1 ?c2 ?c3 ?_);(case c1=>exact QeO);(case c2=>omega);(case c3=>have:=hxr.size;exact Qfp);exact QbX);·obtain rfl:j=ws.length:=QhN;rw[ZnN]at hown b1 b2 b3 b4⊢;have hsl:=hown;clear hj hlt hown;generalize Tw.leastWide ws ws=lw at*;generalize Tw.mostNarrow ws ws=mn at*;by_cases h5:2*lw<3*mn;(·rw[ZmH h5]at HT;go_wp2;go_ret2;exact⟨.slice none 0 0,by rw[HT.out];rfl,by rw[HT.out];exact Own.nil _ _ _,hxr⟩);·rw[ZmF h5]at HT;exact Qfm
theorem Zl5 (n:Nat) (check:Bool) (w:World) (hn:n<=1000000):
 Calls prog 148 #[.int .i64 5,.int .i64 (n:Int),.bool check] w fun e w'=>e=.returned (.bool (Tw.countsK 0 n check))∧w=w':=by
 cases check
 all_goals go_enter func148,ntmps148;go_wp2;all_goals go_ret;refine⟨Zi ?_,rfl⟩;rw[Zn7];simp[Tw.countsK,Tw.counts];omega
theorem Zl6 (n:Nat) (check:Bool) (w:World) (hn:n<=1000000):
 Calls prog 148 #[.int .i64 6,.int .i64 (n:Int),.bool check] w fun e w'=>e=.returned (.bool (Tw.countsK 1 n check))∧w=w':=by
 cases check
 all_goals go_enter func148,ntmps148;go_wp2;all_goals go_ret;refine⟨Zi ?_,rfl⟩;rw[Zn7];simp[Tw.countsK,Tw.counts];omega
theorem Zl7 (n:Nat) (check:Bool) (w:World) (hn:n<=1000000):
 Calls prog 148 #[.int .i64 7,.int .i64 (n:Int),.bool check] w fun e w'=>e=.returned (.bool (Tw.countsK 2 n check))∧w=w':=by
 cases check
 all_goals go_enter func148,ntmps148;go_wp2;all_goals go_ret;refine⟨Zi ?_,rfl⟩;rw[Zn7];simp[Tw.countsK,Tw.countsItf];omega
end
end Go.Proofs.YtbngggoccndefaaGreatDoor
