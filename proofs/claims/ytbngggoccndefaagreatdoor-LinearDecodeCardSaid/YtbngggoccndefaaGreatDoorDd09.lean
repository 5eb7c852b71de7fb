/-
  Laid together.
-/
import Derived.Test.YtbngggoccndefaaGreatDoorDd06
import Derived.Test.YtbngggoccndefaaGreatDoorDd08
set_option maxHeartbeats 16000000
set_option maxRecDepth 100000
set_option linter.unusedVariables false
set_option linter.unusedSimpArgs false
set_option linter.ambiguousOpen false
section
namespace Go.Proofs.YtbngggoccndefaaGreatDoor
open Go.Proofs.Tryz
open Go.RowKit
structure AlphAt (w:World) (bc bp bz:Nat) (cs ps:ByteArray) (z:Nat):Prop where
 c:w.cell? ⟨bc,0,none⟩=some (.string cs)
 p:w.cell? ⟨bp,0,none⟩=some (.string ps)
 z:w.cell? ⟨bz,0,none⟩=some (.int .i64 (z:Int))
 lc:bc<w.heap.size
 lp:bp<w.heap.size
 lz:bz<w.heap.size
theorem AlphAt.ext {w w':World} {bc bp bz:Nat} {cs ps:ByteArray} {z:Nat} (h:AlphAt w bc bp bz cs ps z) (hx:Ext w w'):AlphAt w' bc bp bz cs ps z:=
 ⟨by rw[hx.cell (p:=⟨bc,0,none⟩) h.lc];exact h.c,by rw[hx.cell (p:=⟨bp,0,none⟩) h.lp];exact h.p,by rw[hx.cell (p:=⟨bz,0,none⟩) h.lz];exact h.z,
  Znc h.lc hx.size,Znc h.lp hx.size,Znc h.lz hx.size⟩
theorem ZdC (ps:ByteArray) (z i:Nat):(ps.extract (i*z) ((i+1)*z)).data.toList=Tw.cutAt ps.data.toList z i:=by rw[Zs];unfold Tw.cutAt;congr 1;rw[Nat.add_mul,Nat.one_mul];omega
theorem Zaf (cs ps:ByteArray) (z:Nat) (c:UInt8) (bc bp bz:Nat) (w:World) (hA:AlphAt w bc bp bz cs ps z) (hz:z=5∨z=7∨z=9) (hps:ps.size=cs.size*z) (hcs:cs.size<=100):
 Calls prog 236 #[.int .u8 (c.toNat:Int),.pointer (some ⟨bc,0,none⟩),.pointer (some ⟨bp,0,none⟩),.pointer (some ⟨bz,0,none⟩)] w
  fun e w'=>e=.returned (.tuple #[.string ⟨(Tw.pat cs.data.toList ps.data.toList z c).1.toArray⟩,.bool (Tw.pat cs.data.toList ps.data.toList z c).2])∧w=w':=by
 obtain⟨h1,h2,h3,_,_,_⟩:=hA
 have HI:=ZmE (Zbi cs (c.toNat:Int) w)
 rw[ZaT]at HI
 have HB:=ZmE (Tw.pat.eq_1 cs.data.toList ps.data.toList z c)
 by_cases h0:Lib.indexByte cs.data.toList c<0
 ·rw[ZmH h0]at HB;rw[HB.out];generalize Lib.indexByte cs.data.toList c=x at*;go_enter func236,ntmps236;go_wp2_with fail;refine HI.out.mono ?_;rintro e w1 ⟨rfl,rfl⟩;exact QgK
 ·rw[ZmF h0]at HB;rw[HB.out];obtain⟨n,hn⟩:=Znv (show 0<=Lib.indexByte cs.data.toList c by omega);have hl:=Zai _ _ _ hn;rw[Zb]at hl;rw[hn]at HI⊢;clear HB h0 hn;rw[ZnW];have HC:=ZmE (ZdC ps z n);rcases hz with rfl|rfl|rfl;all_goals go_enter func236,ntmps236;go_wp2_with fail;refine HI.out.mono ?_;rintro e w1 ⟨rfl,rfl⟩;go_wp2;go_ret2;exact⟨by rw[<-HC.out,Zy];rfl,rfl⟩
theorem ZcB (cs ps:ByteArray) (z:Nat) (p:ByteArray) (bc bp bz:Nat) (w:World) (hA:AlphAt w bc bp bz cs ps z) (hz:z=5∨z=7∨z=9) (hps:ps.size=cs.size*z) (hcs:cs.size<=100):
 Calls prog 237 #[.string p,.pointer (some ⟨bc,0,none⟩),.pointer (some ⟨bp,0,none⟩),.pointer (some ⟨bz,0,none⟩)] w
  fun e w'=>e=.returned (.tuple #[.int .u8 ((Tw.chr cs.data.toList ps.data.toList z p.data.toList).1.toNat:Int),.bool (Tw.chr cs.data.toList ps.data.toList z p.data.toList).2])∧w=w':=by
 obtain⟨h1,h2,h3,_,_,_⟩:=hA
 have HC:=ZmE (ZdC ps z)
 have HN:=ZmE (Tw.chr_none cs.data.toList ps.data.toList z p.data.toList)
 have HF:=ZmE (Tw.chr_at cs.data.toList ps.data.toList z p.data.toList)
 rw[Zb]at HN HF
 generalize Tw.chr cs.data.toList ps.data.toList z p.data.toList=res at*
 obtain⟨Q,hQ⟩:∃Q:Nat->Bool,∀j,((ps.extract (j*z) ((j+1)*z)).toList==p.toList)=Q j:=⟨_,fun _=>rfl⟩
 have HQ:Hid (∀j,Tw.cutAt ps.data.toList z j=p.data.toList↔Q j=true):=ZmE fun j=>by rw[<-hQ,Znk,Znk,HC.out];simp
 have HQQ:=ZmE hQ
 clear hQ HC
 have HN2:Hid ((∀j,j<cs.size->Q j=false)->res=(0,false)):=ZmE fun h=>HN.out fun i hi he=>by have:=(HQ.out i).1 he;rw[h i hi]at this;exact QeY
 have HF2:Hid (∀j,j<cs.size->Q j=true->(∀i,i<j->Q i=false)->res=(cs.data.toList.getD j 0,true)):=ZmE fun j hj h hb=>HF.out j hj ((HQ.out j).2 h) fun i hi he=>by have:=(HQ.out i).1 he;rw[hb i hi]at this;exact QeY
 clear HQ HN HF
 rcases hz with rfl|rfl|rfl
 all_goals go_enter func237,ntmps237;go_wp2;go_loop [10] (fun i=>∃j:Nat,j<=cs.size∧i=.int .i64 (j:Int)∧Hid (∀m,m<j->Q m=false)) (fun i=>cs.size-(intOf i).toNat);(case atStart=>exact⟨0,ZmP _,rfl,ZmE (fun m hm=>absurd hm (Zo6 _))⟩);case round=>obtain⟨j,hj,rfl,HB⟩:=hrel;by_cases hlt:j<cs.size;(·have hq:=HQQ.out j;cases hqj:Q j;(·rw[hqj]at hq;have HJ:=ZmE hqj;clear hqj;go_wp2;go_round;(case rel=>exact⟨j+1,by omega,by go_num,ZmE (fun m hm=>by rcases ZoP (ZoY hm)with h|rfl;(·exact HB.out m h);·exact HJ.out)⟩);case measure=>exact Q8);·rw[hqj]at hq;have:=HF2.out j hlt hqj HB.out;subst this;clear hqj;exact QgK);·obtain rfl:j=cs.size:=QhN;have:=HN2.out HB.out;subst this;clear hlt hj;exact QgK
end Go.Proofs.YtbngggoccndefaaGreatDoor
namespace Go.Proofs.YtbngggoccndefaaGreatDoor
open Go.Proofs.Tryz
open Go.RowKit
def alphV (z bc bp bz:Nat):Value:=
 .agg #[.int .i64 (z:Int),.func (.func 236) #[] #[.pointer (some ⟨bc,0,none⟩),.pointer (some ⟨bp,0,none⟩),.pointer (some ⟨bz,0,none⟩)],
  .func (.func 237) #[] #[.pointer (some ⟨bc,0,none⟩),.pointer (some ⟨bp,0,none⟩),.pointer (some ⟨bz,0,none⟩)]]
theorem Zaw (cs ps:ByteArray) (z:Nat) (w:World) (hc:cs.size=44∧ps.size=396∧z=9∨cs.size=20∧ps.size=140∧z=7∨cs.size=10∧ps.size=50∧z=5):
 Calls prog 165 #[.string cs,.string ps] w
  fun e w'=>∃bc bp bz,e=.returned (alphV z bc bp bz)∧AlphAt w' bc bp bz cs ps z∧(w.heap.size<=bc∧w.heap.size<=bp∧w.heap.size<=bz)∧Ext w w':=by
 rcases hc with⟨h1,h2,rfl⟩|⟨h1,h2,rfl⟩|⟨h1,h2,rfl⟩
 all_goals
  go_enter func165,ntmps165;go_wp2;refine ZnQ (v:=alphV _ w.heap.size (w.heap.size+1) (w.heap.size+1+1+1)) (by simp[results,results165,go_sem,alphV]) rfl
   ⟨_,_,_,rfl,⟨by simp[go_sem],by simp[go_sem],by simp[go_sem],by simp;omega,by simp,by simp⟩,⟨by omega,by omega,by omega⟩,Xe⟩
def spacedV (z bc bp bz ba be bi bl bm:Nat) (comp text:Value):Value:=
 .agg #[.int .i64 (z:Int),.func (.func 236) #[] #[.pointer (some ⟨bc,0,none⟩),.pointer (some ⟨bp,0,none⟩),.pointer (some ⟨bz,0,none⟩)],
  .func (.func 237) #[] #[.pointer (some ⟨bc,0,none⟩),.pointer (some ⟨bp,0,none⟩),.pointer (some ⟨bz,0,none⟩)],.func (.func 233) #[] #[.pointer (some ⟨ba,0,none⟩),.pointer (some ⟨bl,0,none⟩),.pointer (some ⟨bm,0,none⟩)],comp,
  .func (.func 234) #[] #[.pointer (some ⟨ba,0,none⟩)],
  .func (.func 235) #[] #[.pointer (some ⟨ba,0,none⟩),.pointer (some ⟨be,0,none⟩),.pointer (some ⟨bi,0,none⟩)],text]
structure SpacedAt (w:World) (z bc bp bz ba be bi bl bm:Nat) (edge inner:ByteArray) (least most:Nat):Prop where
 a0:w.cell? ⟨ba,0,none⟩=some (.int .i64 (z:Int))
 a1:w.cell? ⟨ba,1,none⟩=some (.func (.func 236) #[] #[.pointer (some ⟨bc,0,none⟩),.pointer (some ⟨bp,0,none⟩),.pointer (some ⟨bz,0,none⟩)])
 a2:w.cell? ⟨ba,2,none⟩=some (.func (.func 237) #[] #[.pointer (some ⟨bc,0,none⟩),.pointer (some ⟨bp,0,none⟩),.pointer (some ⟨bz,0,none⟩)])
 e:w.cell? ⟨be,0,none⟩=some (.string edge)
 i:w.cell? ⟨bi,0,none⟩=some (.string inner)
 l:w.cell? ⟨bl,0,none⟩=some (.int .i64 (least:Int))
 m:w.cell? ⟨bm,0,none⟩=some (.int .i64 (most:Int))
 la:ba<w.heap.size
 le:be<w.heap.size
 li:bi<w.heap.size
 ll:bl<w.heap.size
 lm:bm<w.heap.size
theorem SpacedAt.ext {w w':World} {z bc bp bz ba be bi bl bm:Nat} {edge inner:ByteArray} {least most:Nat} (h:SpacedAt w z bc bp bz ba be bi bl bm edge inner least most) (hx:Ext w w'):
 SpacedAt w' z bc bp bz ba be bi bl bm edge inner least most:=
 ⟨by rw[hx.cell (p:=⟨ba,0,none⟩) h.la];exact h.a0,by rw[hx.cell (p:=⟨ba,1,none⟩) h.la];exact h.a1,by rw[hx.cell (p:=⟨ba,2,none⟩) h.la];exact h.a2,
  by rw[hx.cell (p:=⟨be,0,none⟩) h.le];exact h.e,by rw[hx.cell (p:=⟨bi,0,none⟩) h.li];exact h.i,by rw[hx.cell (p:=⟨bl,0,none⟩) h.ll];exact h.l,by rw[hx.cell (p:=⟨bm,0,none⟩) h.lm];exact h.m,
  Znc h.la hx.size,Znc h.le hx.size,Znc h.li hx.size,Znc h.ll hx.size,Znc h.lm hx.size⟩
theorem Zdo (z bc bp bz:Nat) (edge inner:ByteArray) (least most:Nat) (w:World):
 Calls prog 164 #[alphV z bc bp bz,.string edge,.string inner,.int .i64 (least:Int),.int .i64 (most:Int)] w
  fun e w'=>∃ba be bi bl bm,e=.returned (spacedV z bc bp bz ba be bi bl bm .nilFunc .nilFunc)∧SpacedAt w' z bc bp bz ba be bi bl bm edge inner least most∧(w.heap.size<=ba∧w.heap.size<=be∧w.heap.size<=bi∧w.heap.size<=bl∧w.heap.size<=bm)∧Ext w w':=by
 unfold alphV
 go_enter func164,ntmps164
 go_wp2
 refine ZnQ (v:=spacedV z bc bp bz w.heap.size (w.heap.size+1) (w.heap.size+1+1) (w.heap.size+1+1+1) (w.heap.size+1+1+1+1) .nilFunc .nilFunc) (by simp[results,results164,go_sem,spacedV]) rfl
  ⟨_,_,_,_,_,rfl,⟨by simp[go_sem],by simp[go_sem],by simp[go_sem],by simp[go_sem],by simp[go_sem],by simp[go_sem],by simp[go_sem],by simp;omega,by simp,by simp,by simp,by simp⟩,⟨by omega,by omega,by omega,by omega,by omega⟩,Xe⟩
theorem AlphAt.keep {w w':World} {B bc bp bz:Nat} {cs ps:ByteArray} {z:Nat} (h:AlphAt w bc bp bz cs ps z) (hk:∀b o,b≠B->b<w.heap.size->w'.cell? ⟨b,o,none⟩=w.cell? ⟨b,o,none⟩) (hs:w.heap.size<=w'.heap.size) (h1:B<bc) (h2:B<bp) (h3:B<bz):AlphAt w' bc bp bz cs ps z:=
 ⟨by rw[hk _ _ QhN h.lc];exact h.c,by rw[hk _ _ QhN h.lp];exact h.p,by rw[hk _ _ QhN h.lz];exact h.z,
  Znc h.lc hs,Znc h.lp hs,Znc h.lz hs⟩
theorem SpacedAt.keep {w w':World} {B z bc bp bz ba be bi bl bm:Nat} {edge inner:ByteArray} {least most:Nat} (h:SpacedAt w z bc bp bz ba be bi bl bm edge inner least most)
 (hk:∀b o,b≠B->b<w.heap.size->w'.cell? ⟨b,o,none⟩=w.cell? ⟨b,o,none⟩) (hs:w.heap.size<=w'.heap.size) (h1:B<ba) (h2:B<be) (h3:B<bi) (h4:B<bl) (h5:B<bm):SpacedAt w' z bc bp bz ba be bi bl bm edge inner least most:=
 ⟨by rw[hk _ _ QhN h.la];exact h.a0,by rw[hk _ _ QhN h.la];exact h.a1,by rw[hk _ _ QhN h.la];exact h.a2,
  by rw[hk _ _ QhN h.le];exact h.e,by rw[hk _ _ QhN h.li];exact h.i,by rw[hk _ _ QhN h.ll];exact h.l,by rw[hk _ _ QhN h.lm];exact h.m,
  Znc h.la hs,Znc h.le hs,Znc h.li hs,Znc h.ll hs,Znc h.lm hs⟩
end Go.Proofs.YtbngggoccndefaaGreatDoor
namespace Go.Proofs.YtbngggoccndefaaGreatDoor
open Go.Proofs.Tryz
open Go.RowKit
theorem ZcS (z bc bp bz ba be bi bl bm:Nat) (edge inner:ByteArray) (least most:Nat) (n:Nat) (check:Bool) (w:World) (hz:z=7∨z=9) (hA:SpacedAt w z bc bp bz ba be bi bl bm edge inner least most) (hl:least<=1) (hm:most<=1000) (hn:n<=9223372036854775806):
 Calls prog 233 #[.int .i64 (n:Int),.bool check,.pointer (some ⟨ba,0,none⟩),.pointer (some ⟨bl,0,none⟩),.pointer (some ⟨bm,0,none⟩)] w
  fun e w'=>e=.returned (.bool (Tw.counts z least most n check))∧w=w':=by
 obtain⟨h1,_,_,_,_,h2,h3,_,_,_,_,_⟩:=hA
 have HT:=ZmE (Tw.counts.eq_1 z least most n check)
 rcases hz with rfl|rfl
 all_goals cases check;all_goals go_enter func233,ntmps233;go_wp2;all_goals go_ret;refine⟨Zi ?_,rfl⟩;rw[HT.out,Zn7];simp;omega
theorem ZaW (s cs:ByteArray) (w:World) (hs:s.size<=9223372036854775807):
 Calls prog 167 #[.string s,.string cs] w fun e w'=>e=.returned (.bool (Tw.only s.data.toList cs.data.toList))∧w=w':=by
 have HL:=ZmE (fun c=>Zbi cs c w)
 go_enter func167,ntmps167
 go_wp2
 go_loop [8] (fun i=>∃j:Nat,j<=s.size∧i=.int .i64 (j:Int)∧Hid (∀c∈s.data.toList.take j,0<=Lib.indexByte cs.data.toList c)) (fun i=>s.size-(intOf i).toNat)
 case atStart=>exact⟨0,ZmP _,rfl,ZmE (fun c hc=>by simp at hc)⟩
 case round=>obtain⟨j,hj,rfl,HB⟩:=hrel;by_cases hlt:j<s.size;(·have HI:=ZmE (HL.out (s[j].toNat:Int));rw[ZaT]at HI;obtain⟨x,hx⟩:∃x,Lib.indexByte cs.data.toList s[j]=x:=⟨_,rfl⟩;rw[hx]at HI;have HX:=ZmE hx;clear hx;by_cases h0:x<0;(·have hd:decide (x<0)=true:=QiH;go_wp2_with fail;refine HI.out.mono ?_;rintro e w1 ⟨rfl,rfl⟩;go_wp2;go_ret;refine⟨Zi ?_,rfl⟩;symm;unfold Tw.only;rw[ZoE];exact⟨s[j],Zj s j hlt,by rw[HX.out];simp;omega⟩);·have hd:decide (x<0)=false:=QiH;go_wp2_with fail;refine HI.out.mono ?_;rintro e w1 ⟨rfl,rfl⟩;go_wp2;go_round;(case rel=>exact⟨j+1,by omega,by go_num,ZmE (fun c hc=>by rw[Z4 s j hlt,ZnR]at hc;rcases hc with h|h;(·exact HB.out c h);·rw[Znz]at h;rw[h,HX.out];omega)⟩);case measure=>exact Q8);·obtain rfl:j=s.size:=QhN;rw[Zx]at HB;clear hj hlt;go_wp2;go_ret;refine⟨Zi ?_,rfl⟩;symm;unfold Tw.only;rw[Znd];exact fun c hc=>by simpa using HB.out c hc
theorem Z8 {a:ByteArray} {l:List UInt8} {x y:Int} (h1:a.data.toList=l) (h2:x=y):Ending.returned (.tuple #[.string a,.int .i64 x])=.returned (.tuple #[.string ⟨l.toArray⟩,.int .i64 y]):=by rw[<-h1,Zy,h2]
theorem Za2 {a:ByteArray} {l:List UInt8} (h1:a.data.toList=l):Ending.returned (.string a)=.returned (.string ⟨l.toArray⟩):=by rw[<-h1,Zy]
theorem Zc7 (k:Int) (l:List UInt8):(Cd.compI k l).1.length<=2:=by
 unfold Cd.compI;split;·simp
 ·rename_i h
  unfold Cd.comp
  repeat' split
  all_goals first|(simp;done)|(rw[Cd.cmp_size _ _ QhN QhN];exact Cd.size_bd _)|(rw[Cd.cmp_size _ _ QhN QhN];have:=Cd.size_bd k.toNat;omega)
theorem Zgu (s:ByteArray) (check:Bool) (w:World) (hs:s.size<=1000000):
 Calls prog 166 #[.string s,.bool check] w fun e w'=>e=.returned (.tuple #[.string ⟨(Tw.comp39 s.data.toList check).1.toArray⟩,.int .i64 (Tw.comp39 s.data.toList check).2])∧Ext w w':=by
 have HO:=ZmE (fun w=>ZaW s ⟨Cd.syms.toArray⟩ w QhN)
 have HT:=ZmE (Tw.comp39.eq_1 s.data.toList check)
 change Hid (∀w,Calls prog 167 #[.string s,.string ⟨#[48,49,50,51,52,53,54,55,56,57,65,66,67,68,69,70,71,72,73,74,75,76,77,78,79,80,81,82,83,84,85,86,87,88,89,90,45,46,32,36,47,43,37]⟩] w fun e w'=>e=.returned (.bool (Tw.only s.data.toList Cd.syms))∧w=w')at HO
 cases ho:Tw.only s.data.toList Cd.syms
 ·rw[ho]at HO HT;rw[ZmH rfl]at HT;rw[HT.out];go_enter func166,ntmps166;go_wp2_with fail;refine(HO.out _).mono ?_;rintro e w1 ⟨rfl,rfl⟩;go_wp2;go_ret2;exact⟨rfl,Ext.refl _⟩
 ·rw[ho]at HO HT;rw[ZmF Bool.noConfusion]at HT;clear ho;cases check;(·rw[ZmH rfl]at HT;rw[HT.out];go_enter func166,ntmps166;go_wp2_with fail;refine(HO.out _).mono ?_;rintro e w1 ⟨rfl,rfl⟩;go_wp2;go_ret2;exact⟨Z8 QhQ rfl,Ext.refl _⟩);·rw[ZmF Bool.noConfusion]at HT;have HC:=ZmE (fun w=>Za5 7 s w QhN);by_cases h0:(Cd.compI 7 s.data.toList).2=0;(·rw[ZmH h0]at HT;rw[HT.out];rw[h0]at HC;clear h0;have hdl:=Zc7 7 s.data.toList;generalize(Cd.compI 7 s.data.toList).1=d at*;obtain⟨D,rfl⟩:∃D:ByteArray,d=D.data.toList:=⟨⟨d.toArray⟩,by simp⟩;rw[Zy]at HC;rw[Zb]at hdl;go_enter func166,ntmps166;go_wp2_with fail;refine(HO.out _).mono ?_;rintro e w1 ⟨rfl,rfl⟩;go_wp2_with fail;refine(HC.out _).mono ?_;rintro e w2 ⟨rfl,hx2⟩;go_wp2;go_ret2;exact⟨Z8 QhQ rfl,hx2⟩);·rw[ZmF h0]at HT;rw[HT.out];have hb:((Cd.compI 7 s.data.toList).2 !=0)=true:=(by rw[ZnA];exact h0);generalize(Cd.compI 7 s.data.toList).2=x at*;generalize(Cd.compI 7 s.data.toList).1=d at*;clear h0 HT;go_enter func166,ntmps166;go_wp2_with fail;refine(HO.out _).mono ?_;rintro e w1 ⟨rfl,rfl⟩;go_wp2_with fail;refine(HC.out _).mono ?_;rintro e w2 ⟨rfl,hx2⟩;go_wp2;go_ret2;exact⟨rfl,hx2⟩
theorem ZgW (s:ByteArray) (check:Bool) (w:World) (hs:s.size<=1000000) (h3:3<=s.size):
 Calls prog 168 #[.string s,.bool check] w fun e w'=>e=.returned (.string ⟨(Tw.text39 s.data.toList check).toArray⟩)∧w=w':=by
 have HT:=ZmE (Tw.text39.eq_1 s.data.toList check)
 rw[Zb]at HT
 have HC1:=ZmE (Zs s 1 (s.size-1))
 have HC2:=ZmE (Zs s 1 (s.size-2))
 cases check
 ·have hn:((s.size:Int)-1).toNat=s.size-1:=QhN;go_enter func168,ntmps168;go_wp2;go_ret;refine⟨Za2 ?_,rfl⟩;rw[HT.out];(first|rw[HC1.out]|(rw[hn,HC1.out])|skip);simp only[Bool.toNat_false];congr 1
 ·have hn:((s.size:Int)-2).toNat=s.size-2:=QhN;go_enter func168,ntmps168;go_wp2;go_ret;refine⟨Za2 ?_,rfl⟩;rw[HT.out];(first|rw[HC2.out]|(rw[hn,HC2.out])|skip);simp only[Bool.toNat_true];try congr 1
end Go.Proofs.YtbngggoccndefaaGreatDoor
namespace Go.Proofs.YtbngggoccndefaaGreatDoor
open Go.Proofs.Tryz
open Go.RowKit
def strV (l:List UInt8):Value:=.string ⟨l.toArray⟩
theorem Ext.row {a w:World} {b:Nat} {t:TypeId} {n:Nat} {f:Nat->Value} (h:a.rowIs b t n f) (hx:Ext a w):w.rowIs b t n f:=h.of_block (hx.block _ h.lt)
theorem Zfc:∀(l:List (List UInt8)),(∀x∈l,x.length<=9)->(Lib.joinTail [110] l).length<=10*l.length
 | [],_=>by simp[Lib.joinTail]
 |x::l,h=>by have h1:=h x (Znh ..);have h2:=Zfc l (fun u hu=>h u (Zne _ hu));simp only[Lib.joinTail,ZnU,List.flatten_cons,ZmM,ZmQ,ZnE]at h2⊢;omega
theorem ZiV (l:List (List UInt8)) (h:∀x∈l,x.length<=9):(Lib.join l [110]).length<=10*l.length:=by
 cases l with
 |nil=>exact ZmP _
 |cons x l=>have h1:=h x (Znh ..);have h2:=Zfc l (fun u hu=>h u (Zne _ hu));rw[Lib.join_cons,ZmM,ZmQ];omega
theorem Zds (cs ps:ByteArray) (z bc bp bz ba be bi bl bm:Nat) (edge inner:ByteArray) (least most:Nat) (s:ByteArray) (w:World) (hS:SpacedAt w z bc bp bz ba be bi bl bm edge inner least most) (hA:AlphAt w bc bp bz cs ps z) (hz:z=5∨z=7∨z=9) (hps:ps.size=cs.size*z) (hcs:cs.size<=100) (hs:s.size<=1000000):
 Calls prog 234 #[.string s,.pointer (some ⟨ba,0,none⟩)] w
  fun e w'=>e=.returned (strV (Lib.join (s.data.toList.map fun c=>(Tw.pat cs.data.toList ps.data.toList z c).1) [110]))∧Ext w w':=by
 have hmk:=Zpa (P:=prog) 141 9 (.string ⟨#[]⟩) 16 underlying141 QhO rfl .i64 .i64 s.size QhN QhN
 have HP:Hid (∀w',Ext w w'->∀c:UInt8,Calls prog 236 #[.int .u8 (c.toNat:Int),.pointer (some ⟨bc,0,none⟩),.pointer (some ⟨bp,0,none⟩),.pointer (some ⟨bz,0,none⟩)] w'
  fun e w''=>e=.returned (.tuple #[.string ⟨(Tw.pat cs.data.toList ps.data.toList z c).1.toArray⟩,.bool (Tw.pat cs.data.toList ps.data.toList z c).2])∧w'=w''):=
  ZmE fun w' hx c=>Zaf cs ps z c bc bp bz w' (hA.ext hx) hz hps hcs
 have HS:=ZmE hS
 clear hS hA
 have HL:Hid (∀c,(Tw.pat cs.data.toList ps.data.toList z c).1.length<=9):=ZmE fun c=>by unfold Tw.pat Tw.cutAt;split;(·simp);·simp only[ZmY];omega
 clear hz hps
 generalize Tw.pat cs.data.toList ps.data.toList z=pt at*
 go_enter func234,ntmps234
 go_wp2
 go_loopw [11] (fun i wr=>∃j:Nat,j<=s.size∧i=.int .i64 (j:Int)∧wr.rowIs w.heap.size 9 s.size (fun k=>if k<j then strV (pt (s.data.toList.getD k 0)).1 else .string ⟨#[]⟩)∧Ext w wr) (fun i _=>s.size-(intOf i).toNat)
 case atStart=>exact Qcr
 case round=>
  obtain⟨j,hj,rfl,hrow,hxr⟩:=hrel;by_cases hlt:j<s.size
  ·have hc1:=(HS.out.ext hxr).a1;have hcj:=hrow.cell hlt;have hfj:=hrow.frozen j;have HQ:=ZmE (fun w' hx=>HP.out w' hx s[j]);have HR:Hid ((wr.setCell ⟨w.heap.size,j,none⟩ (.string ⟨(pt s[j]).1.toArray⟩)).rowIs w.heap.size 9 s.size (fun k=>if k<j+1 then strV (pt (s.data.toList.getD k 0)).1 else .string ⟨#[]⟩)):=
    ZmE ((hrow.set j (.string ⟨(pt s[j]).1.toArray⟩)).congr (fun k hk=>by have hg:s.data.toList.getD j 0=s[j]:=Qkd;by_cases h1:k=j;(·subst h1;rw[ZmH rfl,ZmH QhN,hg];rfl);·rw[ZmF h1];by_cases h2:k<j;(·exact QcG);·rw[ZmF h2,ZmF QhN]))
   have HX:=ZmE (hxr.setCell (p:=⟨w.heap.size,j,none⟩) (ZmK _) (.string ⟨(pt s[j]).1.toArray⟩));clear hrow;go_wp2;go_region_with (go_at_call 236;refine(HQ.out _ ?_).mono ?_;(first|exact hxr|exact hxr.drew|exact hxr.drew.drew);rintro e w1 ⟨rfl,rfl⟩);all_goals go_wp2;go_roundw;(case rel=>exact⟨j+1,by omega,by go_num,HR.out.drew,HX.out.drew⟩);case measure=>exact Q8
  ·obtain rfl:j=s.size:=QhN;have HJ:=ZmE (Tryz.strings_Join w.heap.size 0 s.size (s.data.toList.map fun c=>⟨(pt c).1.toArray⟩) ⟨#[110]⟩ wr (fun k x hx=>by
    rw[Znm,ZoI]at hx;obtain⟨c,hc,rfl⟩:=hx;have hk:=(ZmN.1 hc).1;rw[Zb]at hk;rw[Zoa,hrow.cell hk,ZmH hk,ZmL,hc];rfl) (by have:=hrow.lt;exact this) QiX QiX
    (by rw[Zos];exact ZnF (ZiV _ (fun x hx=>by rw[Zor]at hx;obtain⟨c,_,rfl⟩:=hx;exact HL.out c)) QiX))
   rw[ZmI,Zb,Zos]at HJ;clear hrow hj hlt;exact Qej
end Go.Proofs.YtbngggoccndefaaGreatDoor
end
namespace Go.Proofs.YtbngggoccndefaaGreatDoor
open Go.Proofs.Tryz
section
open Go.RowKit
theorem Zdf {α:Type} (f:Nat->α) (j:Nat):(List.range (j+1)).map f=(List.range j).map f++[f j]:=Qew
theorem ZhR (cs ps:List UInt8) (z:Nat) (e:ByteArray) (i:Nat):Tw.rdAt cs ps z e.data.toList i=Tw.chr cs ps z (e.extract (i*(z+1)) (i*(z+1)+z)).data.toList:=by unfold Tw.rdAt;rw[Zs,ZpO]
theorem Zcq (s:ByteArray) (k:Nat) (h:k<s.size):s.data.toList.getD k 0=s[k]:=Qbz
theorem Zb7 (s:ByteArray) (c:UInt8) (w:World):
 Calls prog 56 #[.string s,.int .u8 (c.toNat:Int)] w fun e w'=>e=.returned (.int .i64 (Lib.indexByte s.data.toList c))∧w=w':=by
 have:=Zbi s (c.toNat:Int) w
 rw[ZaT]at this;exact this
theorem ZlN (cs ps:ByteArray) (bc bp bz ba be bi bl bm:Nat) (edge inner:ByteArray) (least most:Nat) (e:ByteArray) (n:Nat) (w:World) (hS:SpacedAt w 7 bc bp bz ba be bi bl bm edge inner least most) (hA:AlphAt w bc bp bz cs ps 7) (hps:ps.size=cs.size*7) (hcs:cs.size<=100) (hs:e.size<=1000000)
 (hn:e.size+1=n*8) (hn2:2<=n):
 Calls prog 235 #[.string e,.pointer (some ⟨ba,0,none⟩),.pointer (some ⟨be,0,none⟩),.pointer (some ⟨bi,0,none⟩)] w
  fun en w'=>en=.returned (.tuple #[strV (Tw.read cs.data.toList ps.data.toList edge.data.toList inner.data.toList 7 e.data.toList).1,.int .i64 (Tw.read cs.data.toList ps.data.toList edge.data.toList inner.data.toList 7 e.data.toList).2])∧Ext w w':=by
 have hnn:n=(e.data.toList.length+1)/(7+1):=by rw[Zb];omega
 have HRA:=ZmE (fun j=>Tw.read_at cs.data.toList ps.data.toList edge.data.toList inner.data.toList 7 e.data.toList n j hnn)
 have HRB:=ZmE (Tw.read_all cs.data.toList ps.data.toList edge.data.toList inner.data.toList 7 e.data.toList n hnn)
 have HER:=ZmE (fun j=>Tw.rdErr.eq_1 cs.data.toList ps.data.toList edge.data.toList inner.data.toList 7 e.data.toList n j)
 generalize Tw.read cs.data.toList ps.data.toList edge.data.toList inner.data.toList 7 e.data.toList=res at*
 have HP:Hid (∀w',Ext w w'->∀p:ByteArray,Calls prog 237 #[.string p,.pointer (some ⟨bc,0,none⟩),.pointer (some ⟨bp,0,none⟩),.pointer (some ⟨bz,0,none⟩)] w'
  fun e w''=>e=.returned (.tuple #[.int .u8 ((Tw.chr cs.data.toList ps.data.toList 7 p.data.toList).1.toNat:Int),.bool (Tw.chr cs.data.toList ps.data.toList 7 p.data.toList).2])∧w'=w''):=
  ZmE fun w' hx p=>ZcB cs ps 7 p bc bp bz w' (hA.ext hx) QhN hps hcs
 have HCUT:=ZmE (fun j=>ZhR cs.data.toList ps.data.toList 7 e j)
 generalize Tw.rdErr cs.data.toList ps.data.toList edge.data.toList inner.data.toList 7 e.data.toList n=er at*
 have HS:=ZmE hS
 clear hS hA hnn hps
 have hsz:=(HS.out).a0
 have hn3:n<=200000:=by omega
 have hna:e.size+1<=n*8:=by omega
 have hnb:n*8<=e.size+1:=by omega
 have hdv:((e.size:Int)+1)/8=(n:Int):=by omega
 clear hn
 go_enter func235,ntmps235
 go_wp2
 rw[hdv]
 clear hdv hsz
 go_loopw [21,7] (fun i c wr=>∃j:Nat,j<=n∧i=.int .i64 (j:Int)∧Own 5 wr w.heap.size c (((List.range j).map fun k=>(Tw.rdAt cs.data.toList ps.data.toList 7 e.data.toList k).1).map encB)∧Hid (∀m,m<j->er m=0)∧Ext w wr) (fun i _ _=>n-(intOf i).toNat)
 case atStart=>exact Qen
 case round=>obtain⟨j,hj,rfl,hown,HB,hxr⟩:=hrel;by_cases hlt:j<n;(·have hz0:=(HS.out.ext hxr).a0;have HR1:=ZmE (HRA.out j hlt);have HE:=ZmE (HER.out j);have HBN:er j=0->Hid (∀m,m<j+1->er m=0):=fun h=>ZmE (fun m hm=>by rcases ZoP (ZoY hm)with h1|rfl;(·exact HB.out m h1);·exact h);have HRN:=ZmE HBN;clear HBN;have HQ:=ZmE (fun(x:Ahead wr)=>HP.out x.at' (hxr.trans x.ext) (e.extract (j*8) (j*8+7)));have HSN:Hid ((List.range (j+1)).map (fun k=>(Tw.rdAt cs.data.toList ps.data.toList 7 e.data.toList k).1)=(List.range j).map (fun k=>(Tw.rdAt cs.data.toList ps.data.toList 7 e.data.toList k).1)++[(Tw.rdAt cs.data.toList ps.data.toList 7 e.data.toList j).1]):=ZmE (Zdf _ j);rw[<-HCUT.out j]at HQ;generalize Tw.rdAt cs.data.toList ps.data.toList 7 e.data.toList j=r at*;have hgl:((List.range j).map (fun k=>(Tw.rdAt cs.data.toList ps.data.toList 7 e.data.toList k).1)).length<=j:=QhQ;generalize(List.range j).map (fun k=>(Tw.rdAt cs.data.toList ps.data.toList 7 e.data.toList k).1)=got at*;obtain⟨c,ok⟩:=r;have hz2:∀x:Ahead wr,x.at'.cell? ⟨ba,2,none⟩=_:=fun x=>(HS.out.ext (hxr.trans x.ext)).a2;have hz3:∀x:Ahead wr,x.at'.cell? ⟨ba,0,none⟩=_:=fun x=>(HS.out.ext (hxr.trans x.ext)).a0;by_cases hj0:j=0;(·exact QI);·have d1:decide ((0:Int)<(j:Int))=true:=Qcm;have d2:((j:Int)==0)=false:=Qai;obtain⟨k,hk,hke,hkj⟩:∃k:Nat,(j:Int)*8-1=(k:Int)∧k<e.size∧k=j*8-1:=⟨j*8-1,by omega,by omega,rfl⟩;have hgd:e.data.toList.getD (j*(7+1)-1) 0=e[k]:=(by rw[<-Zcq e k hke,hkj]);exact Qq);·exact QgU
theorem ZlO (cs ps:ByteArray) (bc bp bz ba be bi bl bm:Nat) (edge inner:ByteArray) (least most:Nat) (e:ByteArray) (n:Nat) (w:World) (hS:SpacedAt w 9 bc bp bz ba be bi bl bm edge inner least most) (hA:AlphAt w bc bp bz cs ps 9) (hps:ps.size=cs.size*9) (hcs:cs.size<=100) (hs:e.size<=1000000)
 (hn:e.size+1=n*10) (hn2:2<=n):
 Calls prog 235 #[.string e,.pointer (some ⟨ba,0,none⟩),.pointer (some ⟨be,0,none⟩),.pointer (some ⟨bi,0,none⟩)] w
  fun en w'=>en=.returned (.tuple #[strV (Tw.read cs.data.toList ps.data.toList edge.data.toList inner.data.toList 9 e.data.toList).1,.int .i64 (Tw.read cs.data.toList ps.data.toList edge.data.toList inner.data.toList 9 e.data.toList).2])∧Ext w w':=by
 have hnn:n=(e.data.toList.length+1)/(9+1):=by rw[Zb];omega
 have HRA:=ZmE (fun j=>Tw.read_at cs.data.toList ps.data.toList edge.data.toList inner.data.toList 9 e.data.toList n j hnn)
 have HRB:=ZmE (Tw.read_all cs.data.toList ps.data.toList edge.data.toList inner.data.toList 9 e.data.toList n hnn)
 have HER:=ZmE (fun j=>Tw.rdErr.eq_1 cs.data.toList ps.data.toList edge.data.toList inner.data.toList 9 e.data.toList n j)
 generalize Tw.read cs.data.toList ps.data.toList edge.data.toList inner.data.toList 9 e.data.toList=res at*
 have HP:Hid (∀w',Ext w w'->∀p:ByteArray,Calls prog 237 #[.string p,.pointer (some ⟨bc,0,none⟩),.pointer (some ⟨bp,0,none⟩),.pointer (some ⟨bz,0,none⟩)] w'
  fun e w''=>e=.returned (.tuple #[.int .u8 ((Tw.chr cs.data.toList ps.data.toList 9 p.data.toList).1.toNat:Int),.bool (Tw.chr cs.data.toList ps.data.toList 9 p.data.toList).2])∧w'=w''):=
  ZmE fun w' hx p=>ZcB cs ps 9 p bc bp bz w' (hA.ext hx) QhN hps hcs
 have HCUT:=ZmE (fun j=>ZhR cs.data.toList ps.data.toList 9 e j)
 generalize Tw.rdErr cs.data.toList ps.data.toList edge.data.toList inner.data.toList 9 e.data.toList n=er at*
 have HS:=ZmE hS
 clear hS hA hnn hps
 have hsz:=(HS.out).a0
 have hn3:n<=200000:=by omega
 have hna:e.size+1<=n*10:=by omega
 have hnb:n*10<=e.size+1:=by omega
 have hdv:((e.size:Int)+1)/10=(n:Int):=by omega
 clear hn
 go_enter func235,ntmps235
 go_wp2
 rw[hdv]
 clear hdv hsz
 go_loopw [21,7] (fun i c wr=>∃j:Nat,j<=n∧i=.int .i64 (j:Int)∧Own 5 wr w.heap.size c (((List.range j).map fun k=>(Tw.rdAt cs.data.toList ps.data.toList 9 e.data.toList k).1).map encB)∧Hid (∀m,m<j->er m=0)∧Ext w wr) (fun i _ _=>n-(intOf i).toNat)
 case atStart=>exact Qen
 case round=>obtain⟨j,hj,rfl,hown,HB,hxr⟩:=hrel;by_cases hlt:j<n;(·have hz0:=(HS.out.ext hxr).a0;have HR1:=ZmE (HRA.out j hlt);have HE:=ZmE (HER.out j);have HBN:er j=0->Hid (∀m,m<j+1->er m=0):=fun h=>ZmE (fun m hm=>by rcases ZoP (ZoY hm)with h1|rfl;(·exact HB.out m h1);·exact h);have HRN:=ZmE HBN;clear HBN;have HQ:=ZmE (fun(x:Ahead wr)=>HP.out x.at' (hxr.trans x.ext) (e.extract (j*10) (j*10+9)));have HSN:Hid ((List.range (j+1)).map (fun k=>(Tw.rdAt cs.data.toList ps.data.toList 9 e.data.toList k).1)=(List.range j).map (fun k=>(Tw.rdAt cs.data.toList ps.data.toList 9 e.data.toList k).1)++[(Tw.rdAt cs.data.toList ps.data.toList 9 e.data.toList j).1]):=ZmE (Zdf _ j);rw[<-HCUT.out j]at HQ;generalize Tw.rdAt cs.data.toList ps.data.toList 9 e.data.toList j=r at*;have hgl:((List.range j).map (fun k=>(Tw.rdAt cs.data.toList ps.data.toList 9 e.data.toList k).1)).length<=j:=QhQ;generalize(List.range j).map (fun k=>(Tw.rdAt cs.data.toList ps.data.toList 9 e.data.toList k).1)=got at*;obtain⟨c,ok⟩:=r;have hz2:∀x:Ahead wr,x.at'.cell? ⟨ba,2,none⟩=_:=fun x=>(HS.out.ext (hxr.trans x.ext)).a2;have hz3:∀x:Ahead wr,x.at'.cell? ⟨ba,0,none⟩=_:=fun x=>(HS.out.ext (hxr.trans x.ext)).a0;by_cases hj0:j=0;(·exact QI);·have d1:decide ((0:Int)<(j:Int))=true:=Qcm;have d2:((j:Int)==0)=false:=Qai;obtain⟨k,hk,hke,hkj⟩:∃k:Nat,(j:Int)*10-1=(k:Int)∧k<e.size∧k=j*10-1:=⟨j*10-1,by omega,by omega,rfl⟩;have hgd:e.data.toList.getD (j*(9+1)-1) 0=e[k]:=(by rw[<-Zcq e k hke,hkj]);exact Qq);·exact QgU
end
end Go.Proofs.YtbngggoccndefaaGreatDoor
