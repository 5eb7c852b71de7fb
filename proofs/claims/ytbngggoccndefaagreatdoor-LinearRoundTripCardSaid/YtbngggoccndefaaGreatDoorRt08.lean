/-
  Laid.
-/
import Derived.Test.YtbngggoccndefaaGreatDoorRt07
set_option maxHeartbeats 8000000
set_option maxRecDepth 100000
set_option linter.all false
namespace Go.Proofs.YtbngggoccndefaaGreatDoor
open Go.Proofs.Tryz
section
open Go.RowKit
theorem SS (s:ByteArray) (c:Int) (w:World):
 Calls prog 56 #[.string s,.int .u8 c] w fun e w'=>e=.returned (.int .i64 (Lib.indexByte s.data.toList c.toNat.toUInt8))∧w=w':=
 (Tryz.strings_IndexByte _ c w).mono fun _ _ ⟨he,hw⟩=>⟨he,hw.symm⟩
theorem SU (c:UInt8):((c.toNat:Int).toNat).toUInt8=c:=by rw[R6];simp
theorem SV (l:List UInt8) (c:UInt8) (n:Nat) (h:Lib.indexByte l c=(n:Int)):n<l.length:=by have:=(Lib.indexByte_some h).1;rw[J1]at this;exact this.1
end
end Go.Proofs.YtbngggoccndefaaGreatDoor
section
namespace Go.Proofs.YtbngggoccndefaaGreatDoor.Cd
open Go.Proofs.Tryz
theorem cmp_size (k:Nat) (l:List UInt8) (h1:1<=k) (h8:k<=8):(cmp k l).length=size k:=by
 match k,h1,h8 with
 |1,_,_=>rfl
 |2,_,_=>rfl
 |3,_,_=>rfl
 |4,_,_=>rfl
 |5,_,_=>rfl
 |6,_,_=>rfl
 |7,_,_=>rfl
 |8,_,_=>rfl
theorem ver_zero_iff (k:Nat) (l:List UInt8):ver k l=0↔l.length<=4096∧fits k l.length=true∧(∀c∈l.take (l.length-size k),datB k (c.toNat:Int)=true)∧(∀c∈l.drop (l.length-size k),chkB k (c.toNat:Int)=true)∧cmp k (l.take (l.length-size k))=l.drop (l.length-size k):=by
 unfold ver;rw[<-S1 (p:=fun c:UInt8=>datB k c.toNat),<-S1 (p:=fun c:UInt8=>chkB k c.toNat)];by_cases h1:4096<l.length;·rw[G0 h1];constructor;(·intro h;omega);·intro h;omega
 rw[D0 h1];cases h2:fits k l.length;·simp
 rw[D0 L0];cases h3:(l.take (l.length-size k)).all (fun c=>datB k c.toNat);·simp
 rw[D0 L0];cases h4:(l.drop (l.length-size k)).all (fun c=>chkB k c.toNat);·simp
 rw[D0 L0];by_cases h5:cmp k (l.take (l.length-size k))=l.drop (l.length-size k);·rw[G0 h5];simp[h5];omega
 ·rw[D0 h5];simp[h5]
theorem verI_nat (n:Nat) (l:List UInt8) (h1:1<=n) (h8:n<=8):verI (n:Int) l=ver n l:=by rw[verI,D0 C0,R6]
end Go.Proofs.YtbngggoccndefaaGreatDoor.Cd
namespace Go.Proofs.YtbngggoccndefaaGreatDoor.Cd
open Go.Proofs.Tryz
theorem allDig_app {a b:List UInt8} (h:AllDig (a++b)):AllDig a∧AllDig b:=⟨fun x hx=>h x (List.mem_append_left _ hx),fun x hx=>h x (VH _ hx)⟩
end Go.Proofs.YtbngggoccndefaaGreatDoor.Cd
namespace Go.Proofs.YtbngggoccndefaaGreatDoor.Cd
open Go.Proofs.Tryz
theorem parts (k:Nat) (s:List UInt8) (h1:1<=k) (h8:k<=8) (h:ver k s=0):∃l,s=l++cmp k l∧(∀c∈l,datB k (c.toNat:Int)=true)∧l≠ []∧(k=3->l.length=9)∧(∀c∈s,chkB k (c.toNat:Int)=true):=by
 obtain⟨_,hf,hd,hc,he⟩:=(ver_zero_iff k s).1 h;have hlt:=fits_lt k s.length hf;refine⟨s.take (s.length-size k),?_,hd,?_,?_,?_⟩;·rw[he];exact(C6 _ _).symm
 ·intro e;have:(s.take (s.length-size k)).length=0:=(by rw[e];rfl);exact MH
 ·rintro rfl;have:=fits_isbn _ hf;rw[L1,this];rfl
 ·intro c hcs;rw[<-C6 (s.length-size k) s]at hcs;rcases M2.1 hcs with hc'|hc';(·have:=hd c hc';unfold datB at this;unfold chkB;split;(·simp_all);·split<;>simp_all);·exact hc c hc'
end Go.Proofs.YtbngggoccndefaaGreatDoor.Cd
end
section
namespace Go.Proofs.YtbngggoccndefaaGreatDoor
open Go.Proofs.Tryz
open Go.RowKit
structure ZA (w:World) (bc bp bz:Nat) (cs ps:ByteArray) (z:Nat):Prop where
 c:w.cell? ⟨bc,0,none⟩=some (.string cs)
 p:w.cell? ⟨bp,0,none⟩=some (.string ps)
 z:w.cell? ⟨bz,0,none⟩=some (.int .i64 (z:Int))
 lc:bc<w.heap.size
 lp:bp<w.heap.size
 lz:bz<w.heap.size
theorem ZA.ext {w w':World} {bc bp bz:Nat} {cs ps:ByteArray} {z:Nat} (h:ZA w bc bp bz cs ps z) (hx:Ext w w'):ZA w' bc bp bz cs ps z:=
 ⟨by rw[hx.cell (p:=⟨bc,0,none⟩) h.lc];exact h.c,by rw[hx.cell (p:=⟨bp,0,none⟩) h.lp];exact h.p,by rw[hx.cell (p:=⟨bz,0,none⟩) h.lz];exact h.z,
  M1 h.lc hx.size,M1 h.lp hx.size,M1 h.lz hx.size⟩
theorem DJ (ps:ByteArray) (z i:Nat):(ps.extract (i*z) ((i+1)*z)).data.toList=Tw.cutAt ps.data.toList z i:=by rw[Z0];unfold Tw.cutAt;congr 1;rw[V8,VP];omega
theorem VY (cs ps:ByteArray) (z:Nat) (c:UInt8) (bc bp bz:Nat) (w:World) (hA:ZA w bc bp bz cs ps z) (hz:z=5∨z=7∨z=9) (hps:ps.size=cs.size*z) (hcs:cs.size<=100):
 Calls prog 236 #[.int .u8 (c.toNat:Int),.pointer (some ⟨bc,0,none⟩),.pointer (some ⟨bp,0,none⟩),.pointer (some ⟨bz,0,none⟩)] w
  fun e w'=>e=.returned (.tuple #[.string ⟨(Tw.pat cs.data.toList ps.data.toList z c).1.toArray⟩,.bool (Tw.pat cs.data.toList ps.data.toList z c).2])∧w=w':=by
 obtain⟨h1,h2,h3,_,_,_⟩:=hA
 have HI:=B0 (SS cs (c.toNat:Int) w)
 rw[SU]at HI
 have HB:=B0 (Tw.pat.eq_1 cs.data.toList ps.data.toList z c)
 by_cases h0:Lib.indexByte cs.data.toList c<0
 ·rw[G0 h0]at HB;rw[HB.out];generalize Lib.indexByte cs.data.toList c=x at*;go_enter func236,ntmps236;go_wp2_with fail;refine HI.out.mono ?_;rintro e w1 ⟨rfl,rfl⟩;go_wp2;go_ret2;exact Q3
 ·rw[D0 h0]at HB;rw[HB.out];obtain⟨n,hn⟩:=B6 (show 0<=Lib.indexByte cs.data.toList c by omega);have hl:=SV _ _ _ hn;rw[Za]at hl;rw[hn]at HI⊢;clear HB h0 hn;rw[R6];have HC:=B0 (DJ ps z n);rcases hz with rfl|rfl|rfl;all_goals go_enter func236,ntmps236;go_wp2_with fail;refine HI.out.mono ?_;rintro e w1 ⟨rfl,rfl⟩;go_wp2;go_ret2;exact⟨by rw[<-HC.out,Zt];rfl,rfl⟩
theorem MI (cs ps:ByteArray) (z:Nat) (p:ByteArray) (bc bp bz:Nat) (w:World) (hA:ZA w bc bp bz cs ps z) (hz:z=5∨z=7∨z=9) (hps:ps.size=cs.size*z) (hcs:cs.size<=100):
 Calls prog 237 #[.string p,.pointer (some ⟨bc,0,none⟩),.pointer (some ⟨bp,0,none⟩),.pointer (some ⟨bz,0,none⟩)] w
  fun e w'=>e=.returned (.tuple #[.int .u8 ((Tw.chr cs.data.toList ps.data.toList z p.data.toList).1.toNat:Int),.bool (Tw.chr cs.data.toList ps.data.toList z p.data.toList).2])∧w=w':=by
 obtain⟨h1,h2,h3,_,_,_⟩:=hA
 have HC:=B0 (DJ ps z)
 have HN:=B0 (Tw.chr_none cs.data.toList ps.data.toList z p.data.toList)
 have HF:=B0 (Tw.chr_at cs.data.toList ps.data.toList z p.data.toList)
 rw[Za]at HN HF
 generalize Tw.chr cs.data.toList ps.data.toList z p.data.toList=res at*
 obtain⟨Q,hQ⟩:∃Q:Nat->Bool,∀j,((ps.extract (j*z) ((j+1)*z)).toList==p.toList)=Q j:=⟨_,fun _=>rfl⟩
 have HQ:Hid (∀j,Tw.cutAt ps.data.toList z j=p.data.toList↔Q j=true):=B0 fun j=>by rw[<-hQ,G2,G2,HC.out];simp
 have HQQ:=B0 hQ
 clear hQ HC
 have HN2:Hid ((∀j,j<cs.size->Q j=false)->res=(0,false)):=B0 fun h=>HN.out fun i hi he=>by have:=(HQ.out i).1 he;rw[h i hi]at this;exact Bool.noConfusion this
 have HF2:Hid (∀j,j<cs.size->Q j=true->(∀i,i<j->Q i=false)->res=(cs.data.toList.getD j 0,true)):=B0 fun j hj h hb=>HF.out j hj ((HQ.out j).2 h) fun i hi he=>by have:=(HQ.out i).1 he;rw[hb i hi]at this;exact Bool.noConfusion this
 clear HQ HN HF
 rcases hz with rfl|rfl|rfl
 all_goals go_enter func237,ntmps237;go_wp2;go_loop [10] (fun i=>∃j:Nat,j<=cs.size∧i=.int .i64 (j:Int)∧Hid (∀m,m<j->Q m=false)) (fun i=>cs.size-(intOf i).toNat);(case atStart=>exact⟨0,U0 _,rfl,B0 (fun m hm=>absurd hm (YB _))⟩);case round=>obtain⟨j,hj,rfl,HB⟩:=hrel;by_cases hlt:j<cs.size;(·have hq:=HQQ.out j;cases hqj:Q j;(·rw[hqj]at hq;have HJ:=B0 hqj;clear hqj;go_wp2;go_round;(case rel=>exact⟨j+1,by omega,by go_num,B0 (fun m hm=>by rcases SW (SX hm)with h|rfl;(·exact HB.out m h);·exact HJ.out)⟩);case measure=>exact QD);·rw[hqj]at hq;have:=HF2.out j hlt hqj HB.out;subst this;clear hqj;go_wp2;go_ret2;exact Q3);·obtain rfl:j=cs.size:=C0;have:=HN2.out HB.out;subst this;clear hlt hj;go_wp2;go_ret2;exact Q3
end Go.Proofs.YtbngggoccndefaaGreatDoor
namespace Go.Proofs.YtbngggoccndefaaGreatDoor
open Go.Proofs.Tryz
open Go.RowKit
def J7 (z bc bp bz:Nat):Value:=
 .agg #[.int .i64 (z:Int),.func (.func 236) #[] #[.pointer (some ⟨bc,0,none⟩),.pointer (some ⟨bp,0,none⟩),.pointer (some ⟨bz,0,none⟩)],
  .func (.func 237) #[] #[.pointer (some ⟨bc,0,none⟩),.pointer (some ⟨bp,0,none⟩),.pointer (some ⟨bz,0,none⟩)]]
theorem MJ (cs ps:ByteArray) (z:Nat) (w:World) (hc:cs.size=44∧ps.size=396∧z=9∨cs.size=20∧ps.size=140∧z=7∨cs.size=10∧ps.size=50∧z=5):
 Calls prog 165 #[.string cs,.string ps] w
  fun e w'=>∃bc bp bz,e=.returned (J7 z bc bp bz)∧ZA w' bc bp bz cs ps z∧(w.heap.size<=bc∧w.heap.size<=bp∧w.heap.size<=bz)∧Ext w w':=by
 rcases hc with⟨h1,h2,rfl⟩|⟨h1,h2,rfl⟩|⟨h1,h2,rfl⟩
 all_goals
  go_enter func165,ntmps165;go_wp2;refine A4 (v:=J7 _ w.heap.size (w.heap.size+1) (w.heap.size+1+1+1)) (by simp[results,results165,go_sem,J7]) rfl
   ⟨_,_,_,rfl,⟨by simp[go_sem],by simp[go_sem],by simp[go_sem],by simp;omega,by simp,by simp⟩,⟨by omega,by omega,by omega⟩,Xe⟩
def VZ (z bc bp bz ba be bi bl bm:Nat) (comp text:Value):Value:=
 .agg #[.int .i64 (z:Int),.func (.func 236) #[] #[.pointer (some ⟨bc,0,none⟩),.pointer (some ⟨bp,0,none⟩),.pointer (some ⟨bz,0,none⟩)],
  .func (.func 237) #[] #[.pointer (some ⟨bc,0,none⟩),.pointer (some ⟨bp,0,none⟩),.pointer (some ⟨bz,0,none⟩)],.func (.func 233) #[] #[.pointer (some ⟨ba,0,none⟩),.pointer (some ⟨bl,0,none⟩),.pointer (some ⟨bm,0,none⟩)],comp,
  .func (.func 234) #[] #[.pointer (some ⟨ba,0,none⟩)],
  .func (.func 235) #[] #[.pointer (some ⟨ba,0,none⟩),.pointer (some ⟨be,0,none⟩),.pointer (some ⟨bi,0,none⟩)],text]
structure Z6 (w:World) (z bc bp bz ba be bi bl bm:Nat) (edge inner:ByteArray) (least most:Nat):Prop where
 a0:w.cell? ⟨ba,0,none⟩=some (.int .i64 (z:Int))
 a1:w.cell? ⟨ba,1,none⟩=some (.func (.func 236) #[] #[.pointer (some ⟨bc,0,none⟩),.pointer (some ⟨bp,0,none⟩),.pointer (some ⟨bz,0,none⟩)])
 a2:w.cell? ⟨ba,2,none⟩=some (.func (.func 237) #[] #[.pointer (some ⟨bc,0,none⟩),.pointer (some ⟨bp,0,none⟩),.pointer (some ⟨bz,0,none⟩)])
 e:w.cell? ⟨be,0,none⟩=some (.string edge)
 i:w.cell? ⟨bi,0,none⟩=some (.string inner)
 l:w.cell? ⟨bl,0,none⟩=some (.int .i64 (least:Int))
 m:w.cell? ⟨bm,0,none⟩=some (.int .i64 (most:Int))
 la:ba<w.heap.size
 le:be<w.heap.size
 li:bi<w.heap.size
 ll:bl<w.heap.size
 lm:bm<w.heap.size
theorem Z6.ext {w w':World} {z bc bp bz ba be bi bl bm:Nat} {edge inner:ByteArray} {least most:Nat} (h:Z6 w z bc bp bz ba be bi bl bm edge inner least most) (hx:Ext w w'):
 Z6 w' z bc bp bz ba be bi bl bm edge inner least most:=
 ⟨by rw[hx.cell (p:=⟨ba,0,none⟩) h.la];exact h.a0,by rw[hx.cell (p:=⟨ba,1,none⟩) h.la];exact h.a1,by rw[hx.cell (p:=⟨ba,2,none⟩) h.la];exact h.a2,
  by rw[hx.cell (p:=⟨be,0,none⟩) h.le];exact h.e,by rw[hx.cell (p:=⟨bi,0,none⟩) h.li];exact h.i,by rw[hx.cell (p:=⟨bl,0,none⟩) h.ll];exact h.l,by rw[hx.cell (p:=⟨bm,0,none⟩) h.lm];exact h.m,
  M1 h.la hx.size,M1 h.le hx.size,M1 h.li hx.size,M1 h.ll hx.size,M1 h.lm hx.size⟩
theorem DK (z bc bp bz:Nat) (edge inner:ByteArray) (least most:Nat) (w:World):
 Calls prog 164 #[J7 z bc bp bz,.string edge,.string inner,.int .i64 (least:Int),.int .i64 (most:Int)] w
  fun e w'=>∃ba be bi bl bm,e=.returned (VZ z bc bp bz ba be bi bl bm .nilFunc .nilFunc)∧Z6 w' z bc bp bz ba be bi bl bm edge inner least most∧(w.heap.size<=ba∧w.heap.size<=be∧w.heap.size<=bi∧w.heap.size<=bl∧w.heap.size<=bm)∧Ext w w':=by
 unfold J7
 go_enter func164,ntmps164
 go_wp2
 refine A4 (v:=VZ z bc bp bz w.heap.size (w.heap.size+1) (w.heap.size+1+1) (w.heap.size+1+1+1) (w.heap.size+1+1+1+1) .nilFunc .nilFunc) (by simp[results,results164,go_sem,VZ]) rfl
  ⟨_,_,_,_,_,rfl,⟨by simp[go_sem],by simp[go_sem],by simp[go_sem],by simp[go_sem],by simp[go_sem],by simp[go_sem],by simp[go_sem],by simp;omega,by simp,by simp,by simp,by simp⟩,⟨by omega,by omega,by omega,by omega,by omega⟩,Xe⟩
theorem ZA.keep {w w':World} {B bc bp bz:Nat} {cs ps:ByteArray} {z:Nat} (h:ZA w bc bp bz cs ps z) (hk:∀b o,b≠B->b<w.heap.size->w'.cell? ⟨b,o,none⟩=w.cell? ⟨b,o,none⟩) (hs:w.heap.size<=w'.heap.size) (h1:B<bc) (h2:B<bp) (h3:B<bz):ZA w' bc bp bz cs ps z:=
 ⟨by rw[hk _ _ C0 h.lc];exact h.c,by rw[hk _ _ C0 h.lp];exact h.p,by rw[hk _ _ C0 h.lz];exact h.z,
  M1 h.lc hs,M1 h.lp hs,M1 h.lz hs⟩
theorem Z6.keep {w w':World} {B z bc bp bz ba be bi bl bm:Nat} {edge inner:ByteArray} {least most:Nat} (h:Z6 w z bc bp bz ba be bi bl bm edge inner least most)
 (hk:∀b o,b≠B->b<w.heap.size->w'.cell? ⟨b,o,none⟩=w.cell? ⟨b,o,none⟩) (hs:w.heap.size<=w'.heap.size) (h1:B<ba) (h2:B<be) (h3:B<bi) (h4:B<bl) (h5:B<bm):Z6 w' z bc bp bz ba be bi bl bm edge inner least most:=
 ⟨by rw[hk _ _ C0 h.la];exact h.a0,by rw[hk _ _ C0 h.la];exact h.a1,by rw[hk _ _ C0 h.la];exact h.a2,
  by rw[hk _ _ C0 h.le];exact h.e,by rw[hk _ _ C0 h.li];exact h.i,by rw[hk _ _ C0 h.ll];exact h.l,by rw[hk _ _ C0 h.lm];exact h.m,
  M1 h.la hs,M1 h.le hs,M1 h.li hs,M1 h.ll hs,M1 h.lm hs⟩
end Go.Proofs.YtbngggoccndefaaGreatDoor
namespace Go.Proofs.YtbngggoccndefaaGreatDoor
open Go.Proofs.Tryz
open Go.RowKit
theorem DL (z bc bp bz ba be bi bl bm:Nat) (edge inner:ByteArray) (least most:Nat) (n:Nat) (check:Bool) (w:World) (hz:z=7∨z=9) (hA:Z6 w z bc bp bz ba be bi bl bm edge inner least most) (hl:least<=1) (hm:most<=1000) (hn:n<=9223372036854775806):
 Calls prog 233 #[.int .i64 (n:Int),.bool check,.pointer (some ⟨ba,0,none⟩),.pointer (some ⟨bl,0,none⟩),.pointer (some ⟨bm,0,none⟩)] w
  fun e w'=>e=.returned (.bool (Tw.counts z least most n check))∧w=w':=by
 obtain⟨h1,_,_,_,_,h2,h3,_,_,_,_,_⟩:=hA
 have HT:=B0 (Tw.counts.eq_1 z least most n check)
 rcases hz with rfl|rfl
 all_goals cases check;all_goals go_enter func233,ntmps233;go_wp2;all_goals go_ret;refine⟨Zm ?_,rfl⟩;rw[HT.out,U4];simp;omega
theorem UA (s cs:ByteArray) (w:World) (hs:s.size<=9223372036854775807):
 Calls prog 167 #[.string s,.string cs] w fun e w'=>e=.returned (.bool (Tw.only s.data.toList cs.data.toList))∧w=w':=by
 have HL:=B0 (fun c=>SS cs c w)
 go_enter func167,ntmps167
 go_wp2
 go_loop [8] (fun i=>∃j:Nat,j<=s.size∧i=.int .i64 (j:Int)∧Hid (∀c∈s.data.toList.take j,0<=Lib.indexByte cs.data.toList c)) (fun i=>s.size-(intOf i).toNat)
 case atStart=>exact⟨0,U0 _,rfl,B0 (fun c hc=>by simp at hc)⟩
 case round=>obtain⟨j,hj,rfl,HB⟩:=hrel;by_cases hlt:j<s.size;(·have HI:=B0 (HL.out (s[j].toNat:Int));rw[SU]at HI;obtain⟨x,hx⟩:∃x,Lib.indexByte cs.data.toList s[j]=x:=⟨_,rfl⟩;rw[hx]at HI;have HX:=B0 hx;clear hx;by_cases h0:x<0;(·have hd:decide (x<0)=true:=W8;go_wp2_with fail;refine HI.out.mono ?_;rintro e w1 ⟨rfl,rfl⟩;go_wp2;go_ret;refine⟨Zm ?_,rfl⟩;symm;unfold Tw.only;rw[VW];exact⟨s[j],Zq s j hlt,by rw[HX.out];simp;omega⟩);·have hd:decide (x<0)=false:=W8;go_wp2_with fail;refine HI.out.mono ?_;rintro e w1 ⟨rfl,rfl⟩;go_wp2;go_round;(case rel=>exact⟨j+1,by omega,by go_num,B0 (fun c hc=>by rw[ZP s j hlt,M2]at hc;rcases hc with h|h;(·exact HB.out c h);·rw[Y2]at h;rw[h,HX.out];omega)⟩);case measure=>exact QD);·obtain rfl:j=s.size:=C0;rw[ZI]at HB;clear hj hlt;go_wp2;go_ret;refine⟨Zm ?_,rfl⟩;symm;unfold Tw.only;rw[S1];exact fun c hc=>by simpa using HB.out c hc
theorem YG {a:ByteArray} {l:List UInt8} {x y:Int} (h1:a.data.toList=l) (h2:x=y):Ending.returned (.tuple #[.string a,.int .i64 x])=.returned (.tuple #[.string ⟨l.toArray⟩,.int .i64 y]):=by rw[<-h1,Zt,h2]
theorem XL {a:ByteArray} {l:List UInt8} (h1:a.data.toList=l):Ending.returned (.string a)=.returned (.string ⟨l.toArray⟩):=by rw[<-h1,Zt]
theorem XM (k:Int) (l:List UInt8):(Cd.compI k l).1.length<=2:=by
 unfold Cd.compI;split;·simp
 ·rename_i h
  unfold Cd.comp
  repeat' split
  all_goals first|(simp;done)|(rw[Cd.cmp_size _ _ C0 C0];exact Cd.size_bd _)|(rw[Cd.cmp_size _ _ C0 C0];have:=Cd.size_bd k.toNat;omega)
theorem aE (s:ByteArray) (check:Bool) (w:World) (hs:s.size<=1000000):
 Calls prog 166 #[.string s,.bool check] w fun e w'=>e=.returned (.tuple #[.string ⟨(Tw.comp39 s.data.toList check).1.toArray⟩,.int .i64 (Tw.comp39 s.data.toList check).2])∧Ext w w':=by
 have HO:=B0 (fun w=>UA s ⟨Cd.syms.toArray⟩ w C0)
 have HT:=B0 (Tw.comp39.eq_1 s.data.toList check)
 change Hid (∀w,Calls prog 167 #[.string s,.string ⟨#[48,49,50,51,52,53,54,55,56,57,65,66,67,68,69,70,71,72,73,74,75,76,77,78,79,80,81,82,83,84,85,86,87,88,89,90,45,46,32,36,47,43,37]⟩] w fun e w'=>e=.returned (.bool (Tw.only s.data.toList Cd.syms))∧w=w')at HO
 cases ho:Tw.only s.data.toList Cd.syms
 ·rw[ho]at HO HT;rw[G0 rfl]at HT;rw[HT.out];go_enter func166,ntmps166;go_wp2_with fail;refine(HO.out _).mono ?_;rintro e w1 ⟨rfl,rfl⟩;go_wp2;go_ret2;exact⟨rfl,Ext.refl _⟩
 ·rw[ho]at HO HT;rw[D0 Bool.noConfusion]at HT;clear ho;cases check;(·rw[G0 rfl]at HT;rw[HT.out];go_enter func166,ntmps166;go_wp2_with fail;refine(HO.out _).mono ?_;rintro e w1 ⟨rfl,rfl⟩;go_wp2;go_ret2;exact⟨YG L0 rfl,Ext.refl _⟩);·rw[D0 Bool.noConfusion]at HT;have HC:=B0 (fun w=>SR 7 s w C0);by_cases h0:(Cd.compI 7 s.data.toList).2=0;(·rw[G0 h0]at HT;rw[HT.out];rw[h0]at HC;clear h0;have hdl:=XM 7 s.data.toList;generalize(Cd.compI 7 s.data.toList).1=d at*;obtain⟨D,rfl⟩:∃D:ByteArray,d=D.data.toList:=⟨⟨d.toArray⟩,by simp⟩;rw[Zt]at HC;rw[Za]at hdl;go_enter func166,ntmps166;go_wp2_with fail;refine(HO.out _).mono ?_;rintro e w1 ⟨rfl,rfl⟩;go_wp2_with fail;refine(HC.out _).mono ?_;rintro e w2 ⟨rfl,hx2⟩;go_wp2;go_ret2;exact⟨YG L0 rfl,hx2⟩);·rw[D0 h0]at HT;rw[HT.out];have hb:((Cd.compI 7 s.data.toList).2 !=0)=true:=(by rw[N2];exact h0);generalize(Cd.compI 7 s.data.toList).2=x at*;generalize(Cd.compI 7 s.data.toList).1=d at*;clear h0 HT;go_enter func166,ntmps166;go_wp2_with fail;refine(HO.out _).mono ?_;rintro e w1 ⟨rfl,rfl⟩;go_wp2_with fail;refine(HC.out _).mono ?_;rintro e w2 ⟨rfl,hx2⟩;go_wp2;go_ret2;exact⟨rfl,hx2⟩
theorem aF (s:ByteArray) (check:Bool) (w:World) (hs:s.size<=1000000) (h3:3<=s.size):
 Calls prog 168 #[.string s,.bool check] w fun e w'=>e=.returned (.string ⟨(Tw.text39 s.data.toList check).toArray⟩)∧w=w':=by
 have HT:=B0 (Tw.text39.eq_1 s.data.toList check)
 rw[Za]at HT
 have HC1:=B0 (Z0 s 1 (s.size-1))
 have HC2:=B0 (Z0 s 1 (s.size-2))
 cases check
 ·have hn:((s.size:Int)-1).toNat=s.size-1:=C0;go_enter func168,ntmps168;go_wp2;go_ret;refine⟨XL ?_,rfl⟩;rw[HT.out];(first|rw[HC1.out]|(rw[hn,HC1.out])|skip);simp only[Bool.toNat_false];congr 1
 ·have hn:((s.size:Int)-2).toNat=s.size-2:=C0;go_enter func168,ntmps168;go_wp2;go_ret;refine⟨XL ?_,rfl⟩;rw[HT.out];(first|rw[HC2.out]|(rw[hn,HC2.out])|skip);simp only[Bool.toNat_true];try congr 1
end Go.Proofs.YtbngggoccndefaaGreatDoor
namespace Go.Proofs.YtbngggoccndefaaGreatDoor
open Go.Proofs.Tryz
open Go.RowKit
def strV (l:List UInt8):Value:=.string ⟨l.toArray⟩
theorem DM:∀(l:List (List UInt8)),(∀x∈l,x.length<=9)->(Lib.joinTail [110] l).length<=10*l.length
 | [],_=>by simp[Lib.joinTail]
 |x::l,h=>by have h1:=h x (B1 ..);have h2:=DM l (fun u hu=>h u (C1 _ hu));simp only[Lib.joinTail,Y4,UB,O0,S0,U2]at h2⊢;omega
theorem DN (l:List (List UInt8)) (h:∀x∈l,x.length<=9):(Lib.join l [110]).length<=10*l.length:=by
 cases l with
 |nil=>exact U0 _
 |cons x l=>have h1:=h x (B1 ..);have h2:=DM l (fun u hu=>h u (C1 _ hu));rw[SY,O0,S0];omega
theorem DO (cs ps:ByteArray) (z bc bp bz ba be bi bl bm:Nat) (edge inner:ByteArray) (least most:Nat) (s:ByteArray) (w:World) (hS:Z6 w z bc bp bz ba be bi bl bm edge inner least most) (hA:ZA w bc bp bz cs ps z) (hz:z=5∨z=7∨z=9) (hps:ps.size=cs.size*z) (hcs:cs.size<=100) (hs:s.size<=1000000):
 Calls prog 234 #[.string s,.pointer (some ⟨ba,0,none⟩)] w
  fun e w'=>e=.returned (strV (Lib.join (s.data.toList.map fun c=>(Tw.pat cs.data.toList ps.data.toList z c).1) [110]))∧Ext w w':=by
 have hmk:=B8 (P:=prog) 141 9 (.string ⟨#[]⟩) 16 underlying141 M0 rfl .i64 .i64 s.size C0 C0
 have HP:Hid (∀w',Ext w w'->∀c:UInt8,Calls prog 236 #[.int .u8 (c.toNat:Int),.pointer (some ⟨bc,0,none⟩),.pointer (some ⟨bp,0,none⟩),.pointer (some ⟨bz,0,none⟩)] w'
  fun e w''=>e=.returned (.tuple #[.string ⟨(Tw.pat cs.data.toList ps.data.toList z c).1.toArray⟩,.bool (Tw.pat cs.data.toList ps.data.toList z c).2])∧w'=w''):=
  B0 fun w' hx c=>VY cs ps z c bc bp bz w' (hA.ext hx) hz hps hcs
 have HS:=B0 hS
 clear hS hA
 have HL:Hid (∀c,(Tw.pat cs.data.toList ps.data.toList z c).1.length<=9):=B0 fun c=>DP
 clear hz hps
 generalize Tw.pat cs.data.toList ps.data.toList z=pt at*
 go_enter func234,ntmps234
 go_wp2
 go_loopw [11] (fun i wr=>∃j:Nat,j<=s.size∧i=.int .i64 (j:Int)∧wr.rowIs w.heap.size 9 s.size (fun k=>if k<j then strV (pt (s.data.toList.getD k 0)).1 else .string ⟨#[]⟩)∧Ext w wr) (fun i _=>s.size-(intOf i).toNat)
 case atStart=>exact SZ
 case round=>
  obtain⟨j,hj,rfl,hrow,hxr⟩:=hrel;by_cases hlt:j<s.size
  ·have hc1:=(HS.out.ext hxr).a1;have hcj:=hrow.cell hlt;have hfj:=hrow.frozen j;have HQ:=B0 (fun w' hx=>HP.out w' hx s[j]);have HR:Hid ((wr.setCell ⟨w.heap.size,j,none⟩ (.string ⟨(pt s[j]).1.toArray⟩)).rowIs w.heap.size 9 s.size (fun k=>if k<j+1 then strV (pt (s.data.toList.getD k 0)).1 else .string ⟨#[]⟩)):=
    B0 ((hrow.set j (.string ⟨(pt s[j]).1.toArray⟩)).congr (fun k hk=>by have hg:s.data.toList.getD j 0=s[j]:=DQ;by_cases h1:k=j;(·subst h1;rw[G0 rfl,G0 C0,hg];rfl);·rw[D0 h1];by_cases h2:k<j;(·exact X8);·rw[D0 h2,D0 C0]))
   have HX:=B0 (hxr.setCell (p:=⟨w.heap.size,j,none⟩) (I0 _) (.string ⟨(pt s[j]).1.toArray⟩));clear hrow;go_wp2;go_region_with (go_at_call 236;refine(HQ.out _ ?_).mono ?_;(first|exact hxr|exact hxr.drew|exact hxr.drew.drew);rintro e w1 ⟨rfl,rfl⟩);all_goals go_wp2;go_roundw;(case rel=>exact⟨j+1,by omega,by go_num,HR.out.drew,HX.out.drew⟩);case measure=>exact QD
  ·obtain rfl:j=s.size:=C0;have HJ:=B0 (Tryz.strings_Join w.heap.size 0 s.size (s.data.toList.map fun c=>⟨(pt c).1.toArray⟩) ⟨#[110]⟩ wr (fun k x hx=>by
    rw[X2,XN]at hx;obtain⟨c,hc,rfl⟩:=hx;have hk:=(J1.1 hc).1;rw[Za]at hk;rw[P3,hrow.cell hk,G0 hk,A1,hc];rfl) (by have:=hrow.lt;exact this) MK MK
    (by rw[D6];exact L3 (DN _ (fun x hx=>by rw[J3]at hx;obtain⟨c,_,rfl⟩:=hx;exact HL.out c)) MK))
   rw[N0,Za,D6]at HJ;clear hrow hj hlt;exact DR
end Go.Proofs.YtbngggoccndefaaGreatDoor
end
