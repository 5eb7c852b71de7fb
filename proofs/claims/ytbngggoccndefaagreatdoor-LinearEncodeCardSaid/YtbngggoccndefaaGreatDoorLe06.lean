/-
  Laid.
-/
import Derived.Test.YtbngggoccndefaaGreatDoorLe03
import Derived.Test.YtbngggoccndefaaGreatDoorLe05
set_option maxHeartbeats 8000000
set_option maxRecDepth 100000
set_option linter.all false
section
namespace Go.Proofs.Enc.Cd
open Go.Proofs.Tryz
def cmp_size(k:Nat)(l:List UInt8)(h1:1<=k)(h8:k<=8):(cmp k l).length=size k:=by
 match k,h1,h8 with
 |1,_,_=>rfl
 |2,_,_=>rfl
 |3,_,_=>rfl
 |4,_,_=>rfl
 |5,_,_=>rfl
 |6,_,_=>rfl
 |7,_,_=>rfl
 |8,_,_=>rfl
def ver_zero_iff(k:Nat)(l:List UInt8):ver k l=0↔l.length<=4096/\fits k l.length=true/\(∀c∈l.take (l.length-size k),datB k (c.toNat:Int)=true)/\(∀c∈l.drop (l.length-size k),chkB k (c.toNat:Int)=true)/\cmp k (l.take (l.length-size k))=l.drop (l.length-size k):=by
 unfold ver;rw[<-M1 (p:=λc:UInt8=>datB k c.toNat),<-M1 (p:=λc:UInt8=>chkB k c.toNat)];by_cases h1:4096<l.length;·rw[G0 h1];constructor;(·intro h;omega);·intro h;omega
 rw[D0 h1];cases h2:fits k l.length;·simp
 rw[D0 L0];cases h3:(l.take (l.length-size k)).all (λc=>datB k c.toNat);·simp
 rw[D0 L0];cases h4:(l.drop (l.length-size k)).all (λc=>chkB k c.toNat);·simp
 rw[D0 L0];by_cases h5:cmp k (l.take (l.length-size k))=l.drop (l.length-size k);·rw[G0 h5];simp[h5];omega
 .rw[D0 h5];simp[h5]
def verI_nat(n:Nat)(l:List UInt8)(h1:1<=n)(h8:n<=8):verI (n:Int) l=ver n l:=by rw[verI,D0 C0,H6]
end Go.Proofs.Enc.Cd
namespace Go.Proofs.Enc.Cd
open Go.Proofs.Tryz
def vx(c:UInt8):Int:=if c=88 then 10 else dg c
def aHm{c:UInt8}(h:48<=c.toNat/\c.toNat<=57):vx c=dg c:=D0 (by rintro rfl;revert h;decide)
def dg_inj{a b:UInt8}(h:dg a=dg b):a=b:=by unfold dg at h;exact V4.1 C0
def aHl(v:Int)(h0:0<=v)(h1:v<=10):vx (chr v)=v:=by
 obtain⟨n,rfl⟩:=C4 h0;have h:∀n:Fin 11,vx (chr (n.1:Int))=(n.1:Int):=by decide
 exact h ⟨n,by omega⟩
def aFS(v:Int)(h0:0<=v)(h1:v<=9):dg (chr v)=v:=by
 obtain⟨n,rfl⟩:=C4 h0;have h:∀n:Fin 10,dg (chr (n.1:Int))=(n.1:Int):=by decide
 exact h ⟨n,by omega⟩
def gsF:List UInt8->Int×Int
 | []=>(0,1)
 |c::l=>((gsF l).1+(gsF l).2*dg c,4-(gsF l).2)
def gsF_w(l:List UInt8):(gsF l).2=if l.length%2=0 then 1 else 3:=by
 induction l with
 |nil=>rfl
 |cons c l ih=>simp only[gsF,ih,B1];split<;>split<;>omega
def gsF_snoc(l:List UInt8)(d:UInt8):gsF (l++[d])=((gsP l).1+dg d,(gsP l).2):=by
 induction l with
 |nil=>simp[gsF,gsP]
 |cons c l ih=>simp only[C3,gsF,ih,gsP];congr 1;omega
def aDR{a b:List UInt8}(h:IP (a++b)):IP a/\IP b:=⟨λx hx=>h x (List.mem_append_left _ hx),λx hx=>h x (SW _ hx)⟩
end Go.Proofs.Enc.Cd
namespace Go.Proofs.Enc.Cd
open Go.Proofs.Tryz
def parts(k:Nat)(s:List UInt8)(h1:1<=k)(h8:k<=8)(h:ver k s=0):∃l,s=l++cmp k l/\(∀c∈l,datB k (c.toNat:Int)=true)/\l≠ []/\(k=3->l.length=9)/\(∀c∈s,chkB k (c.toNat:Int)=true):=by
 obtain⟨_,hf,hd,hc,he⟩:=(ver_zero_iff k s).1 h;have hlt:=aD0 k s.length hf;refine⟨s.take (s.length-size k),?_,hd,?_,?_,?_⟩;·rw[he];exact(G7 _ _).symm
 .intro e;have:(s.take (s.length-size k)).length=0:=(by rw[e];rfl);exact EE
 .rintro rfl;have:=aCF _ hf;rw[J1,this];rfl
 .intro c Ar;rw[<-G7 (s.length-size k) s]at Ar;rcases E3.1 Ar with Dd|Dd;(·have:=hd c Dd;unfold datB at this;unfold chkB;split;(·simp_all);·split<;>simp_all);·exact hc c Dd
end Go.Proofs.Enc.Cd
end
section
namespace Go.Proofs.Enc
open Go.Proofs.Tryz
open Go.RowKit
structure ZP (w:World) (bc bp bz:Nat) (cs ps:ByteArray) (z:Nat):Prop where
 c:w.cell? ⟨bc,0,none⟩=some (.string cs)
 p:w.cell? ⟨bp,0,none⟩=some (.string ps)
 z:w.cell? ⟨bz,0,none⟩=some (.int .i64 (z:Int))
 lc:bc<w.heap.size
 lp:bp<w.heap.size
 lz:bz<w.heap.size
def ZP.ext{w w':World}{bc bp bz:Nat}{cs ps:ByteArray}{z:Nat}(h:ZP w bc bp bz cs ps z)(hx:Ext w w'):ZP w' bc bp bz cs ps z:=
 ⟨by rw[hx.cell (p:=⟨bc,0,none⟩) h.lc];exact h.c,by rw[hx.cell (p:=⟨bp,0,none⟩) h.lp];exact h.p,by rw[hx.cell (p:=⟨bz,0,none⟩) h.lz];exact h.z,
  W1 h.lc hx.size,W1 h.lp hx.size,W1 h.lz hx.size⟩
def kW(ps:ByteArray)(z i:Nat):(ps.extract (i*z) ((i+1)*z)).data.toList=Tw.cutAt ps.data.toList z i:=by rw[Zr];unfold Tw.cutAt;congr 1;rw[RE,RF];omega
def RN(cs ps:ByteArray)(z:Nat)(c:UInt8)(bc bp bz:Nat)(w:World)(hA:ZP w bc bp bz cs ps z)(hz:z=5\/z=7\/z=9)(Ex:ps.size=cs.size*z)(Ar:cs.size<=100):
 Calls prog 236 #[.int .u8 (c.toNat:Int),.pointer (some ⟨bc,0,none⟩),.pointer (some ⟨bp,0,none⟩),.pointer (some ⟨bz,0,none⟩)] w
  λe w'=>e=.returned (.tuple #[.string ⟨(Tw.pat cs.data.toList ps.data.toList z c).1.toArray⟩,.bool (Tw.pat cs.data.toList ps.data.toList z c).2])/\w=w':=by
 obtain⟨h1,h2,h3,_,_,_⟩:=hA
 have HI:=B0 (NI cs (c.toNat:Int) w)
 rw[RM]at HI
 have HB:=B0 (Tw.pat.eq_1 cs.data.toList ps.data.toList z c)
 by_cases h0:Lib.indexByte cs.data.toList c<0
 .rw[G0 h0]at HB;rw[HB.out];generalize Lib.indexByte cs.data.toList c=x at*;go_enter func236,ntmps236;go_wp2_with fail;refine HI.out.mono ?_;rintro e w1 ⟨rfl,rfl⟩;exact RO
 .rw[D0 h0]at HB;rw[HB.out];obtain⟨n,hn⟩:=C4 (show 0<=Lib.indexByte cs.data.toList c by omega);have hl:=YT _ _ _ hn;rw[Za]at hl;rw[hn]at HI⊢;clear HB h0 hn;rw[H6];have HC:=B0 (kW ps z n);rcases hz with rfl|rfl|rfl;all_goals go_enter func236,ntmps236;go_wp2_with fail;refine HI.out.mono ?_;rintro e w1 ⟨rfl,rfl⟩;go_wp2;go_ret2;exact⟨by rw[<-HC.out,Z0];rfl,rfl⟩
def EF(cs ps:ByteArray)(z:Nat)(p:ByteArray)(bc bp bz:Nat)(w:World)(hA:ZP w bc bp bz cs ps z)(hz:z=5\/z=7\/z=9)(Ex:ps.size=cs.size*z)(Ar:cs.size<=100):
 Calls prog 237 #[.string p,.pointer (some ⟨bc,0,none⟩),.pointer (some ⟨bp,0,none⟩),.pointer (some ⟨bz,0,none⟩)] w
  λe w'=>e=.returned (.tuple #[.int .u8 ((Tw.chr cs.data.toList ps.data.toList z p.data.toList).1.toNat:Int),.bool (Tw.chr cs.data.toList ps.data.toList z p.data.toList).2])/\w=w':=by
 obtain⟨h1,h2,h3,_,_,_⟩:=hA
 have HC:=B0 (kW ps z)
 have HN:=B0 (Tw.aFK cs.data.toList ps.data.toList z p.data.toList)
 have HF:=B0 (Tw.aFJ cs.data.toList ps.data.toList z p.data.toList)
 rw[Za]at HN HF
 generalize Tw.chr cs.data.toList ps.data.toList z p.data.toList=res at*
 obtain⟨Q,hQ⟩:∃Q:Nat->Bool,∀j,((ps.extract (j*z) ((j+1)*z)).toList==p.toList)=Q j:=⟨_,λ_=>rfl⟩
 have HQ:Hid (∀j,Tw.cutAt ps.data.toList z j=p.data.toList↔Q j=true):=B0 λj=>by rw[<-hQ,I2,I2,HC.out];simp
 have HQQ:=B0 hQ
 clear hQ HC
 have Db:Hid ((∀j,j<cs.size->Q j=false)->res=(0,false)):=B0 λh=>HN.out λi hi he=>by have:=(HQ.out i).1 he;rw[h i hi]at this;exact Bool.noConfusion this
 have Al:Hid (∀j,j<cs.size->Q j=true->(∀i,i<j->Q i=false)->res=(cs.data.toList.getD j 0,true)):=B0 λj hj h hb=>HF.out j hj ((HQ.out j).2 h) λi hi he=>by have:=(HQ.out i).1 he;rw[hb i hi]at this;exact Bool.noConfusion this
 clear HQ HN HF
 rcases hz with rfl|rfl|rfl
 all_goals go_enter func237,ntmps237;go_wp2;go_loop [10] (λi=>∃j:Nat,j<=cs.size/\i=.int .i64 (j:Int)/\Hid (∀m,m<j->Q m=false)) (λi=>cs.size-(intOf i).toNat);(case atStart=>exact⟨0,R0 _,rfl,B0 (λm hm=>absurd hm (U4 _))⟩);case round=>obtain⟨j,hj,rfl,HB⟩:=hrel;by_cases hlt:j<cs.size;(·have hq:=HQQ.out j;cases hqj:Q j;(·rw[hqj]at hq;have HJ:=B0 hqj;clear hqj;go_wp2;go_round;(case rel=>exact⟨j+1,by omega,by go_num,B0 (λm hm=>by rcases NJ (NK hm)with h|rfl;(·exact HB.out m h);·exact HJ.out)⟩);case measure=>exact QH);·rw[hqj]at hq;have:=Al.out j hlt hqj HB.out;subst this;clear hqj;exact RO);·obtain rfl:j=cs.size:=C0;have:=Db.out HB.out;subst this;clear hlt hj;exact RO
end Go.Proofs.Enc
namespace Go.Proofs.Enc
open Go.Proofs.Tryz
open Go.RowKit
def U8(z bc bp bz:Nat):Value:=
 .agg #[.int .i64 (z:Int),.func (.func 236) #[] #[.pointer (some ⟨bc,0,none⟩),.pointer (some ⟨bp,0,none⟩),.pointer (some ⟨bz,0,none⟩)],
  .func (.func 237) #[] #[.pointer (some ⟨bc,0,none⟩),.pointer (some ⟨bp,0,none⟩),.pointer (some ⟨bz,0,none⟩)]]
def EG(cs ps:ByteArray)(z:Nat)(w:World)(hc:cs.size=44/\ps.size=396/\z=9\/cs.size=20/\ps.size=140/\z=7\/cs.size=10/\ps.size=50/\z=5):
 Calls prog 165 #[.string cs,.string ps] w
  λe w'=>∃bc bp bz,e=.returned (U8 z bc bp bz)/\ZP w' bc bp bz cs ps z/\(w.heap.size<=bc/\w.heap.size<=bp/\w.heap.size<=bz)/\Ext w w':=by
 rcases hc with⟨h1,h2,rfl⟩|⟨h1,h2,rfl⟩|⟨h1,h2,rfl⟩
 all_goals
  go_enter func165,ntmps165;go_wp2;refine N4 (v:=U8 _ w.heap.size (w.heap.size+1) (w.heap.size+1+1+1)) (by simp[results,results165,go_sem,U8]) rfl
   ⟨_,_,_,rfl,⟨by simp[go_sem],by simp[go_sem],by simp[go_sem],by simp;omega,by simp,by simp⟩,⟨by omega,by omega,by omega⟩,Xe⟩
def RP(z bc bp bz ba be bi bl bm:Nat)(comp text:Value):Value:=
 .agg #[.int .i64 (z:Int),.func (.func 236) #[] #[.pointer (some ⟨bc,0,none⟩),.pointer (some ⟨bp,0,none⟩),.pointer (some ⟨bz,0,none⟩)],
  .func (.func 237) #[] #[.pointer (some ⟨bc,0,none⟩),.pointer (some ⟨bp,0,none⟩),.pointer (some ⟨bz,0,none⟩)],.func (.func 233) #[] #[.pointer (some ⟨ba,0,none⟩),.pointer (some ⟨bl,0,none⟩),.pointer (some ⟨bm,0,none⟩)],comp,
  .func (.func 234) #[] #[.pointer (some ⟨ba,0,none⟩)],
  .func (.func 235) #[] #[.pointer (some ⟨ba,0,none⟩),.pointer (some ⟨be,0,none⟩),.pointer (some ⟨bi,0,none⟩)],text]
structure ZK (w:World) (z bc bp bz ba be bi bl bm:Nat) (x6 inner:ByteArray) (least Fi:Nat):Prop where
 a0:w.cell? ⟨ba,0,none⟩=some (.int .i64 (z:Int))
 a1:w.cell? ⟨ba,1,none⟩=some (.func (.func 236) #[] #[.pointer (some ⟨bc,0,none⟩),.pointer (some ⟨bp,0,none⟩),.pointer (some ⟨bz,0,none⟩)])
 a2:w.cell? ⟨ba,2,none⟩=some (.func (.func 237) #[] #[.pointer (some ⟨bc,0,none⟩),.pointer (some ⟨bp,0,none⟩),.pointer (some ⟨bz,0,none⟩)])
 e:w.cell? ⟨be,0,none⟩=some (.string x6)
 i:w.cell? ⟨bi,0,none⟩=some (.string inner)
 l:w.cell? ⟨bl,0,none⟩=some (.int .i64 (least:Int))
 m:w.cell? ⟨bm,0,none⟩=some (.int .i64 (Fi:Int))
 la:ba<w.heap.size
 le:be<w.heap.size
 li:bi<w.heap.size
 ll:bl<w.heap.size
 lm:bm<w.heap.size
def ZK.ext{w w':World}{z bc bp bz ba be bi bl bm:Nat}{x6 inner:ByteArray}{least Fi:Nat}(h:ZK w z bc bp bz ba be bi bl bm x6 inner least Fi)(hx:Ext w w'):
 ZK w' z bc bp bz ba be bi bl bm x6 inner least Fi:=
 ⟨by rw[hx.cell (p:=⟨ba,0,none⟩) h.la];exact h.a0,by rw[hx.cell (p:=⟨ba,1,none⟩) h.la];exact h.a1,by rw[hx.cell (p:=⟨ba,2,none⟩) h.la];exact h.a2,
  by rw[hx.cell (p:=⟨be,0,none⟩) h.le];exact h.e,by rw[hx.cell (p:=⟨bi,0,none⟩) h.li];exact h.i,by rw[hx.cell (p:=⟨bl,0,none⟩) h.ll];exact h.l,by rw[hx.cell (p:=⟨bm,0,none⟩) h.lm];exact h.m,
  W1 h.la hx.size,W1 h.le hx.size,W1 h.li hx.size,W1 h.ll hx.size,W1 h.lm hx.size⟩
def kX(z bc bp bz:Nat)(x6 inner:ByteArray)(least Fi:Nat)(w:World):
 Calls prog 164 #[U8 z bc bp bz,.string x6,.string inner,.int .i64 (least:Int),.int .i64 (Fi:Int)] w
  λe w'=>∃ba be bi bl bm,e=.returned (RP z bc bp bz ba be bi bl bm .nilFunc .nilFunc)/\ZK w' z bc bp bz ba be bi bl bm x6 inner least Fi/\(w.heap.size<=ba/\w.heap.size<=be/\w.heap.size<=bi/\w.heap.size<=bl/\w.heap.size<=bm)/\Ext w w':=by
 unfold U8
 go_enter func164,ntmps164
 go_wp2
 refine N4 (v:=RP z bc bp bz w.heap.size (w.heap.size+1) (w.heap.size+1+1) (w.heap.size+1+1+1) (w.heap.size+1+1+1+1) .nilFunc .nilFunc) (by simp[results,results164,go_sem,RP]) rfl
  ⟨_,_,_,_,_,rfl,⟨by simp[go_sem],by simp[go_sem],by simp[go_sem],by simp[go_sem],by simp[go_sem],by simp[go_sem],by simp[go_sem],by simp;omega,by simp,by simp,by simp,by simp⟩,⟨by omega,by omega,by omega,by omega,by omega⟩,Xe⟩
def ZP.keep{w w':World}{B bc bp bz:Nat}{cs ps:ByteArray}{z:Nat}(h:ZP w bc bp bz cs ps z)(hk:∀b o,b≠B->b<w.heap.size->w'.cell? ⟨b,o,none⟩=w.cell? ⟨b,o,none⟩)(hs:w.heap.size<=w'.heap.size)(h1:B<bc)(h2:B<bp)(h3:B<bz):ZP w' bc bp bz cs ps z:=
 ⟨by rw[hk _ _ C0 h.lc];exact h.c,by rw[hk _ _ C0 h.lp];exact h.p,by rw[hk _ _ C0 h.lz];exact h.z,
  W1 h.lc hs,W1 h.lp hs,W1 h.lz hs⟩
def ZK.keep{w w':World}{B z bc bp bz ba be bi bl bm:Nat}{x6 inner:ByteArray}{least Fi:Nat}(h:ZK w z bc bp bz ba be bi bl bm x6 inner least Fi)
 (hk:∀b o,b≠B->b<w.heap.size->w'.cell? ⟨b,o,none⟩=w.cell? ⟨b,o,none⟩)(hs:w.heap.size<=w'.heap.size)(h1:B<ba)(h2:B<be)(h3:B<bi)(h4:B<bl)(h5:B<bm):ZK w' z bc bp bz ba be bi bl bm x6 inner least Fi:=
 ⟨by rw[hk _ _ C0 h.la];exact h.a0,by rw[hk _ _ C0 h.la];exact h.a1,by rw[hk _ _ C0 h.la];exact h.a2,
  by rw[hk _ _ C0 h.le];exact h.e,by rw[hk _ _ C0 h.li];exact h.i,by rw[hk _ _ C0 h.ll];exact h.l,by rw[hk _ _ C0 h.lm];exact h.m,
  W1 h.la hs,W1 h.le hs,W1 h.li hs,W1 h.ll hs,W1 h.lm hs⟩
end Go.Proofs.Enc
namespace Go.Proofs.Enc
open Go.Proofs.Tryz
open Go.RowKit
def kY(z bc bp bz ba be bi bl bm:Nat)(x6 inner:ByteArray)(least Fi:Nat)(n:Nat)(check:Bool)(w:World)(hz:z=7\/z=9)(hA:ZK w z bc bp bz ba be bi bl bm x6 inner least Fi)(hl:least<=1)(hm:Fi<=1000)(hn:n<=9223372036854775806):
 Calls prog 233 #[.int .i64 (n:Int),.bool check,.pointer (some ⟨ba,0,none⟩),.pointer (some ⟨bl,0,none⟩),.pointer (some ⟨bm,0,none⟩)] w
  λe w'=>e=.returned (.bool (Tw.counts z least Fi n check))/\w=w':=by
 obtain⟨h1,_,_,_,_,h2,h3,_,_,_,_,_⟩:=hA
 have HT:=B0 (Tw.counts.eq_1 z least Fi n check)
 rcases hz with rfl|rfl
 all_goals cases check;all_goals go_enter func233,ntmps233;go_wp2;all_goals go_ret;refine⟨Zn ?_,rfl⟩;rw[HT.out,K4];simp;omega
def RQ(s cs:ByteArray)(w:World)(hs:s.size<=9223372036854775807):
 Calls prog 167 #[.string s,.string cs] w λe w'=>e=.returned (.bool (Tw.only s.data.toList cs.data.toList))/\w=w':=by
 have HL:=B0 (λc=>NI cs c w);go_enter func167,ntmps167;go_wp2;go_loop [8] (λi=>∃j:Nat,j<=s.size/\i=.int .i64 (j:Int)/\Hid (∀c∈s.data.toList.take j,0<=Lib.indexByte cs.data.toList c)) (λi=>s.size-(intOf i).toNat)
 case atStart=>exact EH
 case round=>obtain⟨j,hj,rfl,HB⟩:=hrel;by_cases hlt:j<s.size;(·have HI:=B0 (HL.out (s[j].toNat:Int));rw[RM]at HI;obtain⟨x,hx⟩:∃x,Lib.indexByte cs.data.toList s[j]=x:=⟨_,rfl⟩;rw[hx]at HI;have HX:=B0 hx;clear hx;by_cases h0:x<0;(·have hd:decide (x<0)=true:=UN;go_wp2_with fail;refine HI.out.mono ?_;rintro e w1 ⟨rfl,rfl⟩;go_wp2;go_ret;refine⟨Zn ?_,rfl⟩;symm;unfold Tw.only;rw[WT];exact⟨s[j],Zl s j hlt,by rw[HX.out];simp;omega⟩);·have hd:decide (x<0)=false:=UN;go_wp2_with fail;refine HI.out.mono ?_;rintro e w1 ⟨rfl,rfl⟩;go_wp2;go_round;(case rel=>exact⟨j+1,by omega,by go_num,B0 (λc hc=>by rw[Z1 s j hlt,E3]at hc;rcases hc with h|h;(·exact HB.out c h);·rw[D3]at h;rw[h,HX.out];omega)⟩);case measure=>exact QH);·obtain rfl:j=s.size:=C0;rw[Zu]at HB;clear hj hlt;go_wp2;go_ret;refine⟨Zn ?_,rfl⟩;symm;unfold Tw.only;rw[M1];exactλc hc=>by simpa using HB.out c hc
def WU{a:ByteArray}{l:List UInt8}{x y:Int}(h1:a.data.toList=l)(h2:x=y):Ending.returned (.tuple #[.string a,.int .i64 x])=.returned (.tuple #[.string ⟨l.toArray⟩,.int .i64 y]):=by rw[<-h1,Z0,h2]
def UO{a:ByteArray}{l:List UInt8}(h1:a.data.toList=l):Ending.returned (.string a)=.returned (.string ⟨l.toArray⟩):=by rw[<-h1,Z0]
def UP(k:Int)(l:List UInt8):(Cd.compI k l).1.length<=2:=by
 unfold Cd.compI;split;·simp
 .rename_i h
  unfold Cd.comp
  repeat' split
  all_goals first|(simp;done)|(rw[Cd.cmp_size _ _ C0 C0];exact Cd.size_bd _)|(rw[Cd.cmp_size _ _ C0 C0];have:=Cd.size_bd k.toNat;omega)
def Ziz(s:ByteArray)(check:Bool)(w:World)(hs:s.size<=1000000):
 Calls prog 166 #[.string s,.bool check] w λe w'=>e=.returned (.tuple #[.string ⟨(Tw.comp39 s.data.toList check).1.toArray⟩,.int .i64 (Tw.comp39 s.data.toList check).2])/\Ext w w':=by
 have HO:=B0 (λw=>RQ s ⟨Cd.syms.toArray⟩ w C0);have HT:=B0 (Tw.comp39.eq_1 s.data.toList check);change Hid (∀w,Calls prog 167 #[.string s,.string ⟨#[48,49,50,51,52,53,54,55,56,57,65,66,67,68,69,70,71,72,73,74,75,76,77,78,79,80,81,82,83,84,85,86,87,88,89,90,45,46,32,36,47,43,37]⟩] w λe w'=>e=.returned (.bool (Tw.only s.data.toList Cd.syms))/\w=w')at HO;cases ho:Tw.only s.data.toList Cd.syms
 .rw[ho]at HO HT;rw[G0 rfl]at HT;rw[HT.out];go_enter func166,ntmps166;go_wp2_with fail;refine(HO.out _).mono ?_;rintro e w1 ⟨rfl,rfl⟩;go_wp2;go_ret2;exact⟨rfl,Ext.refl _⟩
 .rw[ho]at HO HT;rw[D0 Bool.noConfusion]at HT;clear ho;cases check;(·rw[G0 rfl]at HT;rw[HT.out];go_enter func166,ntmps166;go_wp2_with fail;refine(HO.out _).mono ?_;rintro e w1 ⟨rfl,rfl⟩;go_wp2;go_ret2;exact⟨WU L0 rfl,Ext.refl _⟩);·rw[D0 Bool.noConfusion]at HT;have HC:=B0 (λw=>NH 7 s w C0);by_cases h0:(Cd.compI 7 s.data.toList).2=0;(·rw[G0 h0]at HT;rw[HT.out];rw[h0]at HC;clear h0;have Oc:=UP 7 s.data.toList;generalize(Cd.compI 7 s.data.toList).1=d at*;obtain⟨D,rfl⟩:∃D:ByteArray,d=D.data.toList:=⟨⟨d.toArray⟩,by simp⟩;rw[Z0]at HC;rw[Za]at Oc;go_enter func166,ntmps166;go_wp2_with fail;refine(HO.out _).mono ?_;rintro e w1 ⟨rfl,rfl⟩;go_wp2_with fail;refine(HC.out _).mono ?_;rintro e w2 ⟨rfl,j0⟩;go_wp2;go_ret2;exact⟨WU L0 rfl,j0⟩);·rw[D0 h0]at HT;rw[HT.out];have hb:((Cd.compI 7 s.data.toList).2 !=0)=true:=(by rw[R1];exact h0);generalize(Cd.compI 7 s.data.toList).2=x at*;generalize(Cd.compI 7 s.data.toList).1=d at*;clear h0 HT;go_enter func166,ntmps166;go_wp2_with fail;refine(HO.out _).mono ?_;rintro e w1 ⟨rfl,rfl⟩;go_wp2_with fail;refine(HC.out _).mono ?_;rintro e w2 ⟨rfl,j0⟩;go_wp2;go_ret2;exact⟨rfl,j0⟩
def Zjq(s:ByteArray)(check:Bool)(w:World)(hs:s.size<=1000000)(h3:3<=s.size):
 Calls prog 168 #[.string s,.bool check] w λe w'=>e=.returned (.string ⟨(Tw.text39 s.data.toList check).toArray⟩)/\w=w':=by
 have HT:=B0 (Tw.text39.eq_1 s.data.toList check);rw[Za]at HT;have Lp:=B0 (Zr s 1 (s.size-1));have IE:=B0 (Zr s 1 (s.size-2));cases check
 .have hn:((s.size:Int)-1).toNat=s.size-1:=C0;go_enter func168,ntmps168;go_wp2;go_ret;refine⟨UO ?_,rfl⟩;rw[HT.out];(first|rw[Lp.out]|(rw[hn,Lp.out])|skip);simp only[Bool.toNat_false];congr 1
 .have hn:((s.size:Int)-2).toNat=s.size-2:=C0;go_enter func168,ntmps168;go_wp2;go_ret;refine⟨UO ?_,rfl⟩;rw[HT.out];(first|rw[IE.out]|(rw[hn,IE.out])|skip);simp only[Bool.toNat_true];try congr 1
end Go.Proofs.Enc
namespace Go.Proofs.Enc
open Go.Proofs.Tryz
open Go.RowKit
def strV(l:List UInt8):Value:=.string ⟨l.toArray⟩
def Ext.row{a w:World}{b:Nat}{t:TypeId}{n:Nat}{f:Nat->Value}(h:a.rowIs b t n f)(hx:Ext a w):w.rowIs b t n f:=h.of_block (hx.block _ h.lt)
def kZ:∀(l:List (List UInt8)),(∀x∈l,x.length<=9)->(Lib.joinTail [110] l).length<=10*l.length
 | [],_=>by simp[Lib.joinTail]
 |x::l,h=>by have h1:=h x (C2 ..);have h2:=kZ l (λu hu=>h u (Y1 _ hu));simp only[Lib.joinTail,M4,List.flatten_cons,S0,B1,I3]at h2⊢;omega
def EI(l:List (List UInt8))(h:∀x∈l,x.length<=9):(Lib.join l [110]).length<=10*l.length:=by
 cases l with
 |nil=>exact R0 _
 |cons x l=>have h1:=h x (C2 ..);have h2:=kZ l (λu hu=>h u (Y1 _ hu));rw[NM,S0,B1];omega
def jA(cs ps:ByteArray)(z bc bp bz ba be bi bl bm:Nat)(x6 inner:ByteArray)(least Fi:Nat)(s:ByteArray)(w:World)(hS:ZK w z bc bp bz ba be bi bl bm x6 inner least Fi)(hA:ZP w bc bp bz cs ps z)(hz:z=5\/z=7\/z=9)(Ex:ps.size=cs.size*z)(Ar:cs.size<=100)(hs:s.size<=1000000):
 Calls prog 234 #[.string s,.pointer (some ⟨ba,0,none⟩)] w
  λe w'=>e=.returned (strV (Lib.join (s.data.toList.map λc=>(Tw.pat cs.data.toList ps.data.toList z c).1) [110]))/\Ext w w':=by
 have IT:=J7 (P:=prog) 141 9 (.string ⟨#[]⟩) 16 underlying141 N0 rfl .i64 .i64 s.size C0 C0
 have HP:Hid (∀w',Ext w w'->∀c:UInt8,Calls prog 236 #[.int .u8 (c.toNat:Int),.pointer (some ⟨bc,0,none⟩),.pointer (some ⟨bp,0,none⟩),.pointer (some ⟨bz,0,none⟩)] w'
  λe y8=>e=.returned (.tuple #[.string ⟨(Tw.pat cs.data.toList ps.data.toList z c).1.toArray⟩,.bool (Tw.pat cs.data.toList ps.data.toList z c).2])/\w'=y8):=
  B0 λw' hx c=>RN cs ps z c bc bp bz w' (hA.ext hx) hz Ex Ar
 have HS:=B0 hS
 clear hS hA
 have HL:Hid (∀c,(Tw.pat cs.data.toList ps.data.toList z c).1.length<=9):=B0 λc=>jB
 clear hz Ex
 generalize Tw.pat cs.data.toList ps.data.toList z=pt at*
 go_enter func234,ntmps234
 go_wp2
 go_loopw [11] (λi wr=>∃j:Nat,j<=s.size/\i=.int .i64 (j:Int)/\wr.rowIs w.heap.size 9 s.size (λk=>if k<j then strV (pt (s.data.toList.getD k 0)).1 else .string ⟨#[]⟩)/\Ext w wr) (λi _=>s.size-(intOf i).toNat)
 case atStart=>exact NN
 case round=>
  obtain⟨j,hj,rfl,k9,j3⟩:=hrel;by_cases hlt:j<s.size
  .have Am:=(HS.out.ext j3).a1;have Nf:=k9.cell hlt;have hfj:=k9.frozen j;have HQ:=B0 (λw' hx=>HP.out w' hx s[j]);have HR:Hid ((wr.setCell ⟨w.heap.size,j,none⟩ (.string ⟨(pt s[j]).1.toArray⟩)).rowIs w.heap.size 9 s.size (λk=>if k<j+1 then strV (pt (s.data.toList.getD k 0)).1 else .string ⟨#[]⟩)):=
    B0 ((k9.set j (.string ⟨(pt s[j]).1.toArray⟩)).congr (λk hk=>by have hg:s.data.toList.getD j 0=s[j]:=jC;by_cases h1:k=j;(·subst h1;rw[G0 rfl,G0 C0,hg];rfl);·rw[D0 h1];by_cases h2:k<j;(·exact V8);·rw[D0 h2,D0 C0]))
   have HX:=B0 (j3.setCell (p:=⟨w.heap.size,j,none⟩) (J0 _) (.string ⟨(pt s[j]).1.toArray⟩));clear k9;go_wp2;go_region_with (go_at_call 236;refine(HQ.out _ ?_).mono ?_;(first|exact j3|exact j3.drew|exact j3.drew.drew);rintro e w1 ⟨rfl,rfl⟩);all_goals go_wp2;go_roundw;(case rel=>exact⟨j+1,by omega,by go_num,HR.out.drew,HX.out.drew⟩);case measure=>exact QH
  .obtain rfl:j=s.size:=C0;have HJ:=B0 (Tryz.strings_Join w.heap.size 0 s.size (s.data.toList.map λc=>⟨(pt c).1.toArray⟩) ⟨#[110]⟩ wr (λk x hx=>by
    rw[B3,UQ]at hx;obtain⟨c,hc,rfl⟩:=hx;have hk:=(N1.1 hc).1;rw[Za]at hk;rw[Nat.zero_add,k9.cell hk,G0 hk,F1,hc];rfl) (by have:=k9.lt;exact this) EJ EJ
    (by rw[K7];exact F3 (EI _ (λx hx=>by rw[I5]at hx;obtain⟨c,_,rfl⟩:=hx;exact HL.out c)) EJ))
   rw[M0,Za,K7]at HJ;clear k9 hj hlt;exact jD
end Go.Proofs.Enc
end
namespace Go.Proofs.Enc
open Go.Proofs.Tryz
section
open Go.RowKit
def jE{α:Type}(f:Nat->α)(j:Nat):(List.range (j+1)).map f=(List.range j).map f++[f j]:=by rw[EK,R2];rfl
def jF(cs ps:List UInt8)(z:Nat)(e:ByteArray)(i:Nat):Tw.Hw cs ps z e.data.toList i=Tw.chr cs ps z (e.extract (i*(z+1)) (i*(z+1)+z)).data.toList:=by unfold Tw.Hw;rw[Zr,RG]
def UR(s:ByteArray)(k:Nat)(h:k<s.size):s.data.toList.getD k 0=s[k]:=UT
def NO(s:ByteArray)(c:UInt8)(w:World):
 Calls prog 56 #[.string s,.int .u8 (c.toNat:Int)] w λe w'=>e=.returned (.int .i64 (Lib.indexByte s.data.toList c))/\w=w':=by
 have:=NI s (c.toNat:Int) w;rw[RM]at this;exact this
def Zov(cs ps:ByteArray)(bc bp bz ba be bi bl bm:Nat)(x6 inner:ByteArray)(least Fi:Nat)(e:ByteArray)(n:Nat)(w:World)(hS:ZK w 7 bc bp bz ba be bi bl bm x6 inner least Fi)(hA:ZP w bc bp bz cs ps 7)(Ex:ps.size=cs.size*7)(Ar:cs.size<=100)(hs:e.size<=1000000)
 (hn:e.size+1=n*8)(Av:2<=n):
 Calls prog 235 #[.string e,.pointer (some ⟨ba,0,none⟩),.pointer (some ⟨be,0,none⟩),.pointer (some ⟨bi,0,none⟩)] w
  λen w'=>en=.returned (.tuple #[strV (Tw.read cs.data.toList ps.data.toList x6.data.toList inner.data.toList 7 e.data.toList).1,.int .i64 (Tw.read cs.data.toList ps.data.toList x6.data.toList inner.data.toList 7 e.data.toList).2])/\Ext w w':=by
 have Of:n=(e.data.toList.length+1)/(7+1):=by rw[Za];omega
 have Gl:=B0 (λj=>Tw.aE2 cs.data.toList ps.data.toList x6.data.toList inner.data.toList 7 e.data.toList n j Of)
 have Gd:=B0 (Tw.aE1 cs.data.toList ps.data.toList x6.data.toList inner.data.toList 7 e.data.toList n Of)
 have HER:=B0 (λj=>Tw.rdErr.eq_1 cs.data.toList ps.data.toList x6.data.toList inner.data.toList 7 e.data.toList n j)
 generalize Tw.read cs.data.toList ps.data.toList x6.data.toList inner.data.toList 7 e.data.toList=res at*
 have HP:Hid (∀w',Ext w w'->∀p:ByteArray,Calls prog 237 #[.string p,.pointer (some ⟨bc,0,none⟩),.pointer (some ⟨bp,0,none⟩),.pointer (some ⟨bz,0,none⟩)] w'
  λe y8=>e=.returned (.tuple #[.int .u8 ((Tw.chr cs.data.toList ps.data.toList 7 p.data.toList).1.toNat:Int),.bool (Tw.chr cs.data.toList ps.data.toList 7 p.data.toList).2])/\w'=y8):=
  B0 λw' hx p=>EF cs ps 7 p bc bp bz w' (hA.ext hx) C0 Ex Ar
 have aBv:=B0 (λj=>jF cs.data.toList ps.data.toList 7 e j)
 generalize Tw.rdErr cs.data.toList ps.data.toList x6.data.toList inner.data.toList 7 e.data.toList n=er at*
 have HS:=B0 hS
 clear hS hA Of Ex
 have o4:=(HS.out).a0
 have Wd:n<=200000:=by omega
 have hna:e.size+1<=n*8:=by omega
 have hnb:n*8<=e.size+1:=by omega
 have Sk:((e.size:Int)+1)/8=(n:Int):=by omega
 clear hn
 go_enter func235,ntmps235
 go_wp2
 rw[Sk]
 clear Sk o4
 go_loopw [21,7] (λi c wr=>∃j:Nat,j<=n/\i=.int .i64 (j:Int)/\Own 5 wr w.heap.size c (((List.range j).map λk=>(Tw.Hw cs.data.toList ps.data.toList 7 e.data.toList k).1).map encB)/\Hid (∀m,m<j->er m=0)/\Ext w wr) (λi _ _=>n-(intOf i).toNat)
 case atStart=>exact jG
 case round=>obtain⟨j,hj,rfl,b8,HB,j3⟩:=hrel;by_cases hlt:j<n;(·have An:=(HS.out.ext j3).a0;have p6:=B0 (Gl.out j hlt);have HE:=B0 (HER.out j);have Dk:er j=0->Hid (∀m,m<j+1->er m=0):=λh=>B0 (λm hm=>by rcases NJ (NK hm)with h1|rfl;(·exact HB.out m h1);·exact h);have HRN:=B0 Dk;clear Dk;have HQ:=B0 (λ(x:Zw wr)=>HP.out x.at' (j3.trans x.ext) (e.extract (j*8) (j*8+7)));have Nx:Hid ((List.range (j+1)).map (λk=>(Tw.Hw cs.data.toList ps.data.toList 7 e.data.toList k).1)=(List.range j).map (λk=>(Tw.Hw cs.data.toList ps.data.toList 7 e.data.toList k).1)++[(Tw.Hw cs.data.toList ps.data.toList 7 e.data.toList j).1]):=B0 (jE _ j);rw[<-aBv.out j]at HQ;generalize Tw.Hw cs.data.toList ps.data.toList 7 e.data.toList j=r at*;have De:((List.range j).map (λk=>(Tw.Hw cs.data.toList ps.data.toList 7 e.data.toList k).1)).length<=j:=L0;generalize(List.range j).map (λk=>(Tw.Hw cs.data.toList ps.data.toList 7 e.data.toList k).1)=got at*;obtain⟨c,ok⟩:=r;have x9:∀x:Zw wr,x.at'.cell? ⟨ba,2,none⟩=_:=λx=>(HS.out.ext (j3.trans x.ext)).a2;have hz3:∀x:Zw wr,x.at'.cell? ⟨ba,0,none⟩=_:=λx=>(HS.out.ext (j3.trans x.ext)).a0;by_cases Cx:j=0;(·exact Ql);·have d1:decide ((0:Int)<(j:Int))=true:=X0;have d2:((j:Int)==0)=false:=QJ;obtain⟨k,hk,hke,Uf⟩:∃k:Nat,(j:Int)*8-1=(k:Int)/\k<e.size/\k=j*8-1:=⟨j*8-1,by omega,by omega,rfl⟩;have IG:e.data.toList.getD (j*(7+1)-1) 0=e[k]:=(by rw[<-UR e k hke,Uf]);exact Qc);·exact jH
def Zow(cs ps:ByteArray)(bc bp bz ba be bi bl bm:Nat)(x6 inner:ByteArray)(least Fi:Nat)(e:ByteArray)(n:Nat)(w:World)(hS:ZK w 9 bc bp bz ba be bi bl bm x6 inner least Fi)(hA:ZP w bc bp bz cs ps 9)(Ex:ps.size=cs.size*9)(Ar:cs.size<=100)(hs:e.size<=1000000)
 (hn:e.size+1=n*10)(Av:2<=n):
 Calls prog 235 #[.string e,.pointer (some ⟨ba,0,none⟩),.pointer (some ⟨be,0,none⟩),.pointer (some ⟨bi,0,none⟩)] w
  λen w'=>en=.returned (.tuple #[strV (Tw.read cs.data.toList ps.data.toList x6.data.toList inner.data.toList 9 e.data.toList).1,.int .i64 (Tw.read cs.data.toList ps.data.toList x6.data.toList inner.data.toList 9 e.data.toList).2])/\Ext w w':=by
 have Of:n=(e.data.toList.length+1)/(9+1):=by rw[Za];omega
 have Gl:=B0 (λj=>Tw.aE2 cs.data.toList ps.data.toList x6.data.toList inner.data.toList 9 e.data.toList n j Of)
 have Gd:=B0 (Tw.aE1 cs.data.toList ps.data.toList x6.data.toList inner.data.toList 9 e.data.toList n Of)
 have HER:=B0 (λj=>Tw.rdErr.eq_1 cs.data.toList ps.data.toList x6.data.toList inner.data.toList 9 e.data.toList n j)
 generalize Tw.read cs.data.toList ps.data.toList x6.data.toList inner.data.toList 9 e.data.toList=res at*
 have HP:Hid (∀w',Ext w w'->∀p:ByteArray,Calls prog 237 #[.string p,.pointer (some ⟨bc,0,none⟩),.pointer (some ⟨bp,0,none⟩),.pointer (some ⟨bz,0,none⟩)] w'
  λe y8=>e=.returned (.tuple #[.int .u8 ((Tw.chr cs.data.toList ps.data.toList 9 p.data.toList).1.toNat:Int),.bool (Tw.chr cs.data.toList ps.data.toList 9 p.data.toList).2])/\w'=y8):=
  B0 λw' hx p=>EF cs ps 9 p bc bp bz w' (hA.ext hx) C0 Ex Ar
 have aBv:=B0 (λj=>jF cs.data.toList ps.data.toList 9 e j)
 generalize Tw.rdErr cs.data.toList ps.data.toList x6.data.toList inner.data.toList 9 e.data.toList n=er at*
 have HS:=B0 hS
 clear hS hA Of Ex
 have o4:=(HS.out).a0
 have Wd:n<=200000:=by omega
 have hna:e.size+1<=n*10:=by omega
 have hnb:n*10<=e.size+1:=by omega
 have Sk:((e.size:Int)+1)/10=(n:Int):=by omega
 clear hn
 go_enter func235,ntmps235
 go_wp2
 rw[Sk]
 clear Sk o4
 go_loopw [21,7] (λi c wr=>∃j:Nat,j<=n/\i=.int .i64 (j:Int)/\Own 5 wr w.heap.size c (((List.range j).map λk=>(Tw.Hw cs.data.toList ps.data.toList 9 e.data.toList k).1).map encB)/\Hid (∀m,m<j->er m=0)/\Ext w wr) (λi _ _=>n-(intOf i).toNat)
 case atStart=>exact jG
 case round=>obtain⟨j,hj,rfl,b8,HB,j3⟩:=hrel;by_cases hlt:j<n;(·have An:=(HS.out.ext j3).a0;have p6:=B0 (Gl.out j hlt);have HE:=B0 (HER.out j);have Dk:er j=0->Hid (∀m,m<j+1->er m=0):=λh=>B0 (λm hm=>by rcases NJ (NK hm)with h1|rfl;(·exact HB.out m h1);·exact h);have HRN:=B0 Dk;clear Dk;have HQ:=B0 (λ(x:Zw wr)=>HP.out x.at' (j3.trans x.ext) (e.extract (j*10) (j*10+9)));have Nx:Hid ((List.range (j+1)).map (λk=>(Tw.Hw cs.data.toList ps.data.toList 9 e.data.toList k).1)=(List.range j).map (λk=>(Tw.Hw cs.data.toList ps.data.toList 9 e.data.toList k).1)++[(Tw.Hw cs.data.toList ps.data.toList 9 e.data.toList j).1]):=B0 (jE _ j);rw[<-aBv.out j]at HQ;generalize Tw.Hw cs.data.toList ps.data.toList 9 e.data.toList j=r at*;have De:((List.range j).map (λk=>(Tw.Hw cs.data.toList ps.data.toList 9 e.data.toList k).1)).length<=j:=L0;generalize(List.range j).map (λk=>(Tw.Hw cs.data.toList ps.data.toList 9 e.data.toList k).1)=got at*;obtain⟨c,ok⟩:=r;have x9:∀x:Zw wr,x.at'.cell? ⟨ba,2,none⟩=_:=λx=>(HS.out.ext (j3.trans x.ext)).a2;have hz3:∀x:Zw wr,x.at'.cell? ⟨ba,0,none⟩=_:=λx=>(HS.out.ext (j3.trans x.ext)).a0;by_cases Cx:j=0;(·exact Ql);·have d1:decide ((0:Int)<(j:Int))=true:=X0;have d2:((j:Int)==0)=false:=QJ;obtain⟨k,hk,hke,Uf⟩:∃k:Nat,(j:Int)*10-1=(k:Int)/\k<e.size/\k=j*10-1:=⟨j*10-1,by omega,by omega,rfl⟩;have IG:e.data.toList.getD (j*(9+1)-1) 0=e[k]:=(by rw[<-UR e k hke,Uf]);exact Qc);·exact jH
def jI(l:List UInt8)(c:UInt8):Tw.sumCb (l++[c])=Tw.sumCb l+Lib.indexByte Tw.Bb c:=by simp[Tw.sumCb]
def ZmT(l:List UInt8)(h:∀c∈l,0<=Lib.indexByte Tw.Bb c):∀a:Int,a<=(l.map (Lib.indexByte Tw.Bb)).foldl (·+·) a/\(l.map (Lib.indexByte Tw.Bb)).foldl (·+·) a<=a+20*l.length:=by
 induction l with
 |nil=>intro a;simp
 |cons c l ih=>intro a;have h1:=ih (λx hx=>h x (Y1 _ hx)) (a+Lib.indexByte Tw.Bb c);have h2:=h c (C2 ..);obtain⟨n,hn⟩:=C4 h2;have h3:=YT _ _ _ hn;have h4:Tw.Bb.length=20:=rfl;simp only[M4,N3,B1]at h1⊢;omega
def jJ(l:List UInt8)(h:∀c∈l,0<=Lib.indexByte Tw.Bb c):0<=Tw.sumCb l/\Tw.sumCb l<=20*l.length:=by have:=ZmT l h 0;unfold Tw.sumCb;omega
def EL:∀c:UInt8,(0<=Lib.indexByte Tw.Es c\/0<=Lib.indexByte Tw.Ep c)->0<=Lib.indexByte Tw.Bb c:=by
 have h:∀i:Fin 256,(0<=Lib.indexByte Tw.Es (UInt8.ofNat i.val)\/0<=Lib.indexByte Tw.Ep (UInt8.ofNat i.val))->0<=Lib.indexByte Tw.Bb (UInt8.ofNat i.val):=L2;intro c;have:=h ⟨c.toNat,c.toNat_lt⟩;exact I6
def Zo3(l:List UInt8)(h:2<=l.length):l=l.take 1++((l.drop 1).take (l.length-2)++l.drop (l.length-1)):=by
 have h1:l.drop (l.length-1)=(l.drop 1).drop (l.length-2):=by rw[P4];congr 1;omega
 rw[h1,G7,G7]
def jK(l:List UInt8)(h:2<=l.length)(h1:Tw.only (l.take 1) Tw.Es=true)(h2:Tw.only (l.drop (l.length-1)) Tw.Es=true)(h3:Tw.only ((l.drop 1).take (l.length-2)) Tw.Ep=true):
 ∀c∈l,0<=Lib.indexByte Tw.Bb c:=by
 intro c hc;rw[Zo3 l h,E3,E3]at hc;unfold Tw.only at h1 h2 h3;rw[M1]at h1 h2 h3;rcases hc with hc|hc|hc
 .exact EL c (.inl (by simpa using h1 c hc))
 .exact EL c (.inr (by simpa using h3 c hc))
 .exact EL c (.inl (by simpa using h2 c hc))
def ZmK:∀v:Nat,v<16->((⟨#[48,49,50,51,52,53,54,55,56,57,45,36,58,47,46,43]⟩:ByteArray).extract v (v+1)).data.toList=[Tw.Ep.getD v 0]:=by
 intro v hv;rw[Zr];have:∀v:Fin 16,(([48,49,50,51,52,53,54,55,56,57,45,36,58,47,46,43]:List UInt8).drop v.val).take (v.val+1-v.val)=[Tw.Ep.getD v.val 0]:=by decide
 exact this ⟨v,hv⟩
def NP(a b c:ByteArray):(a++b++c).data.toList=a.data.toList++b.data.toList++c.data.toList:=by simp
def Zpe(a b:ByteArray):(a++b).data.toList=a.data.toList++b.data.toList:=by simp
def Zi0(s:ByteArray)(check:Bool)(w:World)(hs:s.size<=1000000):
 Calls prog 169 #[.string s,.bool check] w λe w'=>e=.returned (.tuple #[strV (Tw.compCb s.data.toList check).1,.int .i64 (Tw.compCb s.data.toList check).2])/\Ext w w':=by
 have HT:=B0 (Tw.compCb.eq_1 s.data.toList check);rw[Za]at HT;generalize Tw.compCb s.data.toList check=res at*;by_cases h2:s.size<2
 .rw[G0 h2]at HT;have d1:decide ((s.size:Int)-1<1)=true:=X0;go_enter func169,ntmps169;go_wp2;go_ret2;exact⟨by rw[HT.out];rfl,Ext.refl _⟩
 .rw[D0 h2]at HT;have d1:decide ((s.size:Int)-1<1)=false:=X0;have hsn:((s.size:Int)-1).toNat=s.size-1:=C0;have Ux:Hid (∀w,Calls prog 167 #[.string (s.extract 0 1),.string ⟨#[65,66,67,68]⟩] w λe w'=>e=.returned (.bool (Tw.only (s.data.toList.take 1) Tw.Es))/\w=w'):=
   B0 (λw=>by rw[<-Zx];exact RQ (s.extract 0 1) ⟨#[65,66,67,68]⟩ w W4)
  have Hf:Hid (∀w,Calls prog 167 #[.string (s.extract (s.size-1) s.size),.string ⟨#[65,66,67,68]⟩] w λe w'=>e=.returned (.bool (Tw.only (s.data.toList.drop (s.size-1)) Tw.Es))/\w=w'):=
   B0 (λw=>by rw[<-Z8];exact RQ (s.extract (s.size-1) s.size) ⟨#[65,66,67,68]⟩ w W4)
  have Hg:Hid (∀w,Calls prog 167 #[.string (s.extract 1 (s.size-1)),.string ⟨#[48,49,50,51,52,53,54,55,56,57,45,36,58,47,46,43]⟩] w λe w'=>e=.returned (.bool (Tw.only ((s.data.toList.drop 1).take (s.size-2)) Tw.Ep))/\w=w'):=
   B0 (λw=>by rw[show s.size-2=s.size-1-1 by omega,<-Zr];exact RQ (s.extract 1 (s.size-1)) ⟨#[48,49,50,51,52,53,54,55,56,57,45,36,58,47,46,43]⟩ w W4)
  have HV:=B0 (jK s.data.toList L7);rw[Za]at HV;generalize Tw.only (s.data.toList.take 1) Tw.Es=b1 at*;generalize Tw.only (s.data.toList.drop (s.size-1)) Tw.Es=b2 at*;generalize Tw.only ((s.data.toList.drop 1).take (s.size-2)) Tw.Ep=b3 at*;cases b1;(·rw[G0 rfl]at HT;go_enter func169,ntmps169;go_wp2_with fail;refine(Ux.out _).mono ?_;exact NQ);·rw[D0 Bool.noConfusion]at HT;cases b2;(·rw[G0 rfl]at HT;go_enter func169,ntmps169;go_wp2_with fail;refine(Ux.out _).mono ?_;rintro e w1 ⟨rfl,rfl⟩;go_wp2_with fail;refine(Hf.out _).mono ?_;exact NQ);·rw[D0 Bool.noConfusion]at HT;cases b3;(·rw[G0 rfl]at HT;go_enter func169,ntmps169;go_wp2_with fail;refine(Ux.out _).mono ?_;rintro e w1 ⟨rfl,rfl⟩;go_wp2_with fail;refine(Hf.out _).mono ?_;rintro e w1 ⟨rfl,rfl⟩;go_wp2_with fail;refine(Hg.out _).mono ?_;exact NQ);·rw[D0 Bool.noConfusion]at HT;have Az:=B0 (HV.out rfl rfl rfl);clear HV;cases check;(·rw[G0 rfl]at HT;go_enter func169,ntmps169;go_wp2_with fail;refine(Ux.out _).mono ?_;rintro e w1 ⟨rfl,rfl⟩;go_wp2_with fail;refine(Hf.out _).mono ?_;rintro e w1 ⟨rfl,rfl⟩;go_wp2_with fail;refine(Hg.out _).mono ?_;exact jL);·rw[D0 Bool.noConfusion]at HT;go_enter func169,ntmps169;go_wp2_with fail;refine(Ux.out _).mono ?_;rintro e w1 ⟨rfl,rfl⟩;go_wp2_with fail;refine(Hf.out _).mono ?_;rintro e w1 ⟨rfl,rfl⟩;go_wp2_with fail;refine(Hg.out _).mono ?_;rintro e w1 ⟨rfl,rfl⟩;clear Ux Hf Hg;go_wp2;go_loop [39,7] (λi x=>∃j:Nat,j<=s.size/\i=.int .i64 (j:Int)/\x=.int .i64 (Tw.sumCb (s.data.toList.take j))) (λi _=>s.size-(intOf i).toNat);(case atStart=>exact WQ);case round=>obtain⟨j,hj,rfl,rfl⟩:=hrel;have hb:=jJ (s.data.toList.take j) (λc hc=>Az.out c (I4 hc));rw[W7 s j hj]at hb;obtain⟨o8,n7⟩:=hb;by_cases hlt:j<s.size;(·have HI:=B0 (λw=>NO ⟨#[48,49,50,51,52,53,54,55,56,57,45,36,58,47,46,43,65,66,67,68]⟩ s[j] w);have Nx:=B0 (jI (s.data.toList.take j) s[j]);rw[<-Z1 s j hlt]at Nx;have Mj:=Az.out s[j] (Zl s j hlt);have Gh:Lib.indexByte Tw.Bb s[j]<20:=jM;change Hid (∀w,Calls prog 56 #[.string ⟨#[48,49,50,51,52,53,54,55,56,57,45,36,58,47,46,43,65,66,67,68]⟩,.int .u8 (s[j].toNat:Int)] w λe w'=>e=.returned (.int .i64 (Lib.indexByte Tw.Bb s[j]))/\w=w')at HI;exact jN);·obtain rfl:j=s.size:=C0;rw[Zu]at o8 n7⊢;clear hj hlt;generalize Tw.sumCb s.data.toList=g at*;obtain⟨v,hv,aCf⟩:∃v:Nat,(16-g%16)%16=(v:Int)/\v<16:=⟨((16-g%16)%16).toNat,by omega,by omega⟩;rw[hv,H6]at HT;have Io:=B0 (ZmK v aCf);obtain⟨u,hu⟩:∃u:Nat,v+1=u:=⟨_,rfl⟩;rw[hu]at Io;have Aw:(v:Int)+1=(u:Int):=C0;have Ca:v<=u:=C0;have ID:u<=16:=C0;clear hu;go_wp2;go_quiet (fail);go_wp2;go_ret2;refine⟨?_,?_⟩;(·rw[HT.out];refine WU ?_ rfl;rw[NP,Zx,Io.out,Z8]);·exact(Ext.refl _).drewN _
def Zjr(s:ByteArray)(check:Bool)(w:World)(hs:s.size<=1000000)(h2:2<=s.size):
 Calls prog 170 #[.string s,.bool check] w λe w'=>e=.returned (strV (Tw.textCb s.data.toList check))/\Ext w w':=by
 have HT:=B0 (Tw.textCb.eq_1 s.data.toList check);rw[Za]at HT;generalize Tw.textCb s.data.toList check=res at*;cases check
 .rw[D0 Bool.noConfusion]at HT;go_enter func170,ntmps170;exact jO
 .rw[G0 rfl]at HT;have IU:((s.size:Int)-1).toNat=s.size-1:=C0;have Av:((s.size:Int)-2).toNat=s.size-2:=C0;go_enter func170,ntmps170;go_wp2;go_quiet (fail);go_wp2;go_ret;refine⟨?_,(Ext.refl _).drewN _⟩;rw[HT.out];refine UO ?_;rw[Zpe,Zx,Z8]
def ZhG(s:ByteArray)(check:Bool)(w:World)(hs:s.size<=1000000)(h2:1<=s.size):
 Calls prog 175 #[.string s,.bool check] w λe w'=>e=.returned (strV (Tw.textItf s.data.toList check))/\Ext w w':=by
 have HT:=B0 (Tw.textItf.eq_1 s.data.toList check);rw[Za]at HT;generalize Tw.textItf s.data.toList check=res at*;cases check
 .rw[D0 Bool.noConfusion]at HT;go_enter func175,ntmps175;exact jO
 .rw[G0 rfl]at HT;have IU:((s.size:Int)-1).toNat=s.size-1:=C0;go_enter func175,ntmps175;go_wp2;go_ret;refine⟨?_,Ext.refl _⟩;rw[HT.out];refine UO ?_;rw[Zx]
structure S9 (w:World) (bc bp bz ba bn:Nat):Prop where
 a0:w.cell? ⟨ba,0,none⟩=some (.int .i64 5)
 a1:w.cell? ⟨ba,1,none⟩=some (.func (.func 236) #[] #[.pointer (some ⟨bc,0,none⟩),.pointer (some ⟨bp,0,none⟩),.pointer (some ⟨bz,0,none⟩)])
 n:w.cell? ⟨bn,0,none⟩=some (.int .i64 7)
 la:ba<w.heap.size
 ln:bn<w.heap.size
def S9.ext{w w':World}{bc bp bz ba bn:Nat}(h:S9 w bc bp bz ba bn)(hx:Ext w w'):S9 w' bc bp bz ba bn:=
 ⟨by rw[hx.cell (p:=⟨ba,0,none⟩) h.la];exact h.a0,by rw[hx.cell (p:=⟨ba,1,none⟩) h.la];exact h.a1,by rw[hx.cell (p:=⟨bn,0,none⟩) h.ln];exact h.n,
  W1 h.la hx.size,W1 h.ln hx.size⟩
def ZfQ(bc bp bz ba bn:Nat)(n:Nat)(check:Bool)(w:World)(hA:S9 w bc bp bz ba bn)(hn:n<=9223372036854775806):
 Calls prog 171 #[.int .i64 (n:Int),.bool check,.pointer (some ⟨bn,0,none⟩),.pointer (some ⟨ba,0,none⟩)] w
  λe w'=>e=.returned (.bool (Tw.countsItf n))/\w=w':=by
 obtain⟨h1,_,h3,_,_⟩:=hA
 by_cases h7:n<7
 .have HT:Hid (Tw.countsItf n=false):=B0 (by simp[Tw.countsItf];omega);generalize Tw.countsItf n=res at*;obtain rfl|rfl|rfl|rfl|rfl|rfl|rfl:n=0\/n=1\/n=2\/n=3\/n=4\/n=5\/n=6:=C0;all_goals go_enter func171,ntmps171;go_wp2;all_goals go_ret;exact⟨Zn HT.out.symm,rfl⟩
 .have HT:=B0 (Tw.countsItf.eq_1 n);have h7':0<=(n:Int)-7:=C0;go_enter func171,ntmps171;go_wp2;all_goals go_ret;refine⟨Zn ?_,rfl⟩;rw[HT.out,K4];simp;omega
def Zhi(s:ByteArray)(check:Bool)(w:World)(hs:s.size<=1000000):
 Calls prog 172 #[.string s,.bool check] w λe w'=>e=.returned (.tuple #[strV (Tw.compItf s.data.toList check).1,.int .i64 (Tw.compItf s.data.toList check).2])/\Ext w w':=by
 have HO:Hid (∀w,Calls prog 167 #[.string s,.string ⟨#[48,49,50,51,52,53,54,55,56,57]⟩] w λe w'=>e=.returned (.bool (Tw.only s.data.toList Tw.IH))/\w=w'):=
  B0 (λw=>RQ s ⟨#[48,49,50,51,52,53,54,55,56,57]⟩ w C0)
 have HT:=B0 (Tw.compItf.eq_1 s.data.toList check);have HC:=B0 (λw=>NH 1 s w C0);generalize Tw.compItf s.data.toList check=res at*;generalize Tw.only s.data.toList Tw.IH=b1 at*;cases b1
 .rw[G0 rfl]at HT;exact jP
 .rw[D0 Bool.noConfusion]at HT;cases check;(·rw[G0 rfl,Za]at HT;by_cases h2:s.size%2=0;(·rw[G0 h2]at HT;have d1:((s.size:Int)%2 !=0)=false:=(by rw[bne_eq_false_iff_eq];omega);clear h2;go_enter func172,ntmps172;go_wp2_with fail;refine(HO.out _).mono ?_;exact jL);·rw[D0 h2]at HT;have d1:((s.size:Int)%2 !=0)=true:=EM;clear h2;exact jP);·rw[D0 Bool.noConfusion]at HT;by_cases h0:(Cd.compI 1 s.data.toList).2=0;(·rw[G0 h0]at HT;rw[h0]at HC;clear h0;have Oc:=UP 1 s.data.toList;generalize(Cd.compI 1 s.data.toList).1=d at*;obtain⟨D,rfl⟩:∃D:ByteArray,d=D.data.toList:=⟨⟨d.toArray⟩,by simp⟩;rw[Z0]at HC;rw[Za]at Oc;rw[S0,Za,Za]at HT;by_cases h2:(s.size+D.size)%2=0;(·rw[G0 h2]at HT;have d1:(((s.size:Int)+(D.size:Int))%2 !=0)=false:=(by rw[bne_eq_false_iff_eq];omega);clear h2;go_enter func172,ntmps172;go_wp2_with fail;refine(HO.out _).mono ?_;rintro e w1 ⟨rfl,rfl⟩;go_wp2_with fail;refine(HC.out _).mono ?_;rintro e w2 ⟨rfl,j0⟩;go_wp2;go_ret2;exact⟨by rw[HT.out];exact WU L0 rfl,j0⟩);·rw[D0 h2]at HT;have d1:(((s.size:Int)+(D.size:Int))%2 !=0)=true:=EM;clear h2;exact jQ);·rw[D0 h0]at HT;have hb:((Cd.compI 1 s.data.toList).2 !=0)=true:=(by rw[R1];exact h0);generalize(Cd.compI 1 s.data.toList).2=x at*;generalize(Cd.compI 1 s.data.toList).1=d at*;clear h0;exact jQ
end
end Go.Proofs.Enc
