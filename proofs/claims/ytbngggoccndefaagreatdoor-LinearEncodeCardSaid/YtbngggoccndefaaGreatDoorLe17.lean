/-
  Laid.
-/
import Derived.Test.YtbngggoccndefaaGreatDoorLe16
set_option maxHeartbeats 8000000
set_option maxRecDepth 100000
set_option linter.all false
namespace Go.Proofs.Enc
open Go.Proofs.Tryz
section
open Go.RowKit
def ZM(m:List Bool)(w:World)(e:Ending)(w':World):Prop:=∃v,e=.returned v/\Own 4 w' w.heap.size v (m.map encT)/\Ext w w'
def lU{w:World}{b B n:Nat}{t:TypeId}{f:Nat->Value}(h:w.rowIs b t n f)(hB:B<=b)(hn:n<=maxLen):Own t w B (.slice (some ⟨b,0,none⟩) n n) ((List.range n).map f):=by
 obtain⟨c,hb,hs,hc⟩:=h;refine⟨by simp,.inr ⟨b,n,c,by simp,hB,hb,by simp,hn,by simp[hs],?_⟩⟩;apply Y8;intro i;rw[YY];by_cases hi:i<n;·have h2:=hc i hi;simp only[M0,R6,G6,hi,M3,LQ,h2];simp[hi]
 .simp[hi]
def Own.congr{t:TypeId}{w:World}{B:Nat}{v:Value}{xs ys:List Value}(h:Own t w B v xs)(e:xs=ys):Own t w B v ys:=e▸h
def JA(m:List Bool):∀y∈m.map encT,y.oneCell'=true:=by intro y hy;obtain⟨b,_,rfl⟩:=I5.1 hy;rfl
def xR{w:World}{o:Oper}{a:Act}{K:Act->World->Prop}{Q:Exit->Act->World->Prop}(s x:Operand)(T t:TypeId)(z:Value)(bytes:Nat)
 (ho:o.op=.call {callee:=.builtin .append,args:= #[s,x],argTypes:= #[T,T]})
 (hT:prog.underlying T=some (.slice t))(hi:(prog.info? t).map (λi=>(i.zero,i.size,i.bytes))=some (some z,1,bytes))(hz:z.cells.size=1)(Iz:bytes<=16)
 (B:Nat)(v:Value)(xs:List Value)(hs:a.eval s=v)(b8:Own t w B v xs)(B':Nat)(u:Value)(ys:List Value)(hx:a.eval x=u)(hu:Own t w B' u ys)
 (h1:∀y∈ys,y.oneCell'=true)(hn:xs.length+ys.length<=1000000000)(hB:B<=w.heap.size)
 (h:∀v' w',Own t w' B v' (xs++ys)->w.grownBy w' v.ownBlock->K (a.put o.dst v') w'):o.wp prog a w K Q:=by
 obtain⟨i0,hi,An,p8,x9⟩:=C5 hi;rcases hu.2 with⟨By,h0⟩|⟨g,cap,cur,hv,Ki,hb,Am,IS,hc3,hc4⟩
 .have Cm:=run_append_owned_none (P:=prog) (w:=w) B T o.type t i0 1 hT hi v xs.length xs b8;have hys:ys=[]:=U3 h0;rw[By]at hx;unfold Oper.wp;simp only[execOp,ho,resolve,invoke,builtin,UF,UG,UH,FN,M4,H7,hs,hx,Cm];refine h v w ?_ ⟨rfl,rfl,rfl,J0 _,λ_ _ _=>rfl⟩;rw[hys,A3];exact b8
 ·(have aAR:∀j y,ys[j]? =some y->w.cell? ((⟨g,0,none⟩:Addr).add j)=some y:=λj y hj=>by have Du:j<ys.length:=(N1.1 hj).1;rw[hv]at hu;rw[UD,World.ownsRow.cellAt hu j (by simpa using Du)];exact hj);obtain⟨v',w',h2,h3,h4,_⟩:=run_append_own (P:=prog) w B T o.type t i0 z 1 bytes hT hi An p8 x9 hz I0 v xs.length xs b8 ⟨g,0,none⟩ ys.length cap ys C0 aAR h1 O3 (F3 (O9 hn Iz) I0) hB;rw[hv]at hx;unfold Oper.wp;simp only[execOp,ho,resolve,invoke,builtin,UF,UG,UH,FN,M4,H7,hs,hx,h2];refine h v' w' ?_ h4;unfold Own;rw[S0];exact h3
def lV{w:World}{ops:Array Oper}{rest:List Oper}{o:Oper}{a:Act}{Q:Exit->Act->World->Prop}(IG:o.guard=none)(s x:Operand)(T t:TypeId)(z:Value)(bytes:Nat)
 (ho:o.op=.call {callee:=.builtin .append,args:= #[s,x],argTypes:= #[T,T]})
 (hT:prog.underlying T=some (.slice t))(hi:(prog.info? t).map (λi=>(i.zero,i.size,i.bytes))=some (some z,1,bytes))(hz:z.cells.size=1)(Iz:bytes<=16)
 (B:Nat)(v:Value)(xs:List Value)(hs:a.eval s=v)(b8:Own t w B v xs)(B':Nat)(u:Value)(ys:List Value)(hx:a.eval x=u)(hu:Own t w B' u ys)
 (h1:∀y∈ys,y.oneCell'=true)(hn:xs.length+ys.length<=1000000000)(hB:B<=w.heap.size)
 (h:∀v' w',Own t w' B v' (xs++ys)->w.grownBy w' v.ownBlock->wpList prog ops Q rest (a.put o.dst v') w'):wpList prog ops Q (o::rest) a w:=
 wpList_plain IG λK hK=>xR s x T t z bytes ho hT hi hz Iz B v xs hs b8 B' u ys hx hu h1 hn hB (λv' w' e1 e2=>hK _ _ (h v' w' e1 e2))
def zS(u:List Nat):List UInt8:=u.map Ea.chr
def ZoH(u:List Nat):(zS u).length=u.length:=by simp[zS]
def ZE(s:ByteArray)(m:List Bool)(hs:s.data.toList=Ea.mS m)(hm:m.length<=1000000)(w:World):
 Calls prog 190 #[.string s] w (ZM m w):=by
 have o4:s.size=m.length:=VD;have HS:=B0 hs;have HZ:=B0 o4;have hss:s.size<=1000000:=by omega
 clear hs o4;go_enter func190,ntmps190;go_wp2;go_loopw [3,4] (λv3 v4 wr=>∃k:Nat,k<=s.size/\v4=.int .i64 (k:Int)/\Own 4 wr w.heap.size v3 ((m.take k).map encT)/\Ext w wr) (λ_ v4 _=>s.size-(intOf v4).toNat)
 case atStart=>exact OH
 case round=>obtain⟨k,hk,rfl,b8,j3⟩:=hrel;by_cases hlt:k<s.size;(·obtain⟨b,hb⟩:∃b,m[k]? =some b:=⟨_,P0 (by rw[<-HZ.out];exact hlt)⟩;have hsj:s[k]=Ea.mb b:=(by have h1:s.data.toList[k]? =some s[k]:=P0 VE;exact aG);have HT:Hid (m.take (k+1)=m.take k++[b]):=B0 (by obtain⟨h1,h2⟩:=N1.1 hb;rw[L9 h1,h2]);have aDg:((s[k].toNat:Int)==49)=b:=(by rw[hsj];cases b<;>rfl);have De:(m.take k).length<=k:=V6;generalize m.take k=got at*;clear hb hsj;go_wp2_with (at_builtin;refine UK rfl _ _ rfl w.heap.size _ got rfl (b8.alloc _) _ b rfl ?c1 ?c2 ?c3 ?_);(case c1=>simp[go_sem,encT]);(case c2=>omega);(case c3=>have:=j3.size;exact X0);intro v' w5 l6 j6;have j5:=(j3.alloc _).l8 j6 b8.low;clear b8 j6 aDg;exact xS);·obtain rfl:k=s.size:=C0;have HT:Hid (m.take s.size=m):=B0 (by rw[HZ.out,J6]);clear hk hlt;go_wp2;go_ret;exact⟨_,rfl,by rw[HT.out]at b8;exact b8,j3⟩
def ZA(n:Nat)(hn:n<=1000000)(w:World):Calls prog 122 #[.int .i64 (n:Int)] w (ZM (Ea.lgt n) w):=by have IT:=J7 (P:=prog) 26 4 (.bool false) 1 underlying26 N0 rfl .i64 .i64 n C0 C0;go_enter func122,ntmps122;go_wp2;go_ret;refine⟨_,rfl,(lU (YX w (.bool false) n 4) (J0 _) O3).congr ?_,Xe⟩;unfold Ea.lgt encT;apply V9<;>simp
def Zmt(d:Nat)(hd:d<10)(w:World):(w.alloc (.cells #[.string ⟨#[48,48,48,49,49,48,49]⟩,.string ⟨#[48,48,49,49,48,48,49]⟩,.string ⟨#[48,48,49,48,48,49,49]⟩,.string ⟨#[48,49,49,49,49,48,49]⟩,.string ⟨#[48,49,48,48,48,49,49]⟩,.string ⟨#[48,49,49,48,48,48,49]⟩,.string ⟨#[48,49,48,49,49,49,49]⟩,.string ⟨#[48,49,49,49,48,49,49]⟩,.string ⟨#[48,49,49,48,49,49,49]⟩,.string ⟨#[48,48,48,49,48,49,49]⟩] 9)).cell? ⟨w.heap.size,d,none⟩=some (.string (Ea.bS (Ea.mS (Ea.Bf 0 d)))):=JB
def Zmf(d:Nat)(hd:d<10)(w:World):(w.alloc (.cells #[.string ⟨#[48,48,48,48,48,48]⟩,.string ⟨#[48,48,49,48,49,49]⟩,.string ⟨#[48,48,49,49,48,49]⟩,.string ⟨#[48,48,49,49,49,48]⟩,.string ⟨#[48,49,48,48,49,49]⟩,.string ⟨#[48,49,49,48,48,49]⟩,.string ⟨#[48,49,49,49,48,48]⟩,.string ⟨#[48,49,48,49,48,49]⟩,.string ⟨#[48,49,48,49,49,48]⟩,.string ⟨#[48,49,49,48,49,48]⟩] 9)).cell? ⟨w.heap.size,d,none⟩=some (.string (Ea.bS (zS (Ea.Fb d)))):=JB
def Zn2(d:Nat)(hd:d<10)(w:World):(w.alloc (.cells #[.string ⟨#[49,49,49,48,48,48]⟩,.string ⟨#[49,49,48,49,48,48]⟩,.string ⟨#[49,49,48,48,49,48]⟩,.string ⟨#[49,49,48,48,48,49]⟩,.string ⟨#[49,48,49,49,48,48]⟩,.string ⟨#[49,48,48,49,49,48]⟩,.string ⟨#[49,48,48,48,49,49]⟩,.string ⟨#[49,48,49,48,49,48]⟩,.string ⟨#[49,48,49,48,48,49]⟩,.string ⟨#[49,48,48,49,48,49]⟩] 9)).cell? ⟨w.heap.size,d,none⟩=some (.string (Ea.bS (zS (Ea.Fj 0 d)))):=JB
def ZmA(d:Nat)(hd:d<4)(w:World):(w.alloc (.cells #[.string ⟨#[48,48]⟩,.string ⟨#[48,49]⟩,.string ⟨#[49,48]⟩,.string ⟨#[49,49]⟩] 9)).cell? ⟨w.heap.size,d,none⟩=some (.string (Ea.bS (zS (Ea.aAC.getD d [])))):=by
 have h:d=0\/d=1\/d=2\/d=3:=by omega
 rcases h with rfl|rfl|rfl|rfl<;>exact R7 _ _ w rfl
def ZmB(d:Nat)(hd:d<10)(w:World):(w.alloc (.cells #[.string ⟨#[49,49,48,48,48]⟩,.string ⟨#[49,48,49,48,48]⟩,.string ⟨#[49,48,48,49,48]⟩,.string ⟨#[49,48,48,48,49]⟩,.string ⟨#[48,49,49,48,48]⟩,.string ⟨#[48,48,49,49,48]⟩,.string ⟨#[48,48,48,49,49]⟩,.string ⟨#[48,49,48,49,48]⟩,.string ⟨#[48,49,48,48,49]⟩,.string ⟨#[48,48,49,48,49]⟩] 9)).cell? ⟨w.heap.size,d,none⟩=some (.string (Ea.bS (zS (Ea.aAD.getD d [])))):=JB
def lW(d:Nat)(hd:d<10)(w:World):Calls prog 193 #[.int .i64 (d:Int)] w λe w'=>e=.returned (.string (Ea.bS (zS (Ea.Fb d))))/\Ext w w':=by have hc:=Zmf d hd w;go_enter func193,ntmps193;exact P9
def Zl5:∀(d:Fin 10)(j:Fin 7),(Ea.Bf 2 d.1).getD j.1 false= !(Ea.Bf 0 d.1).getD j.1 false:=by decide
def Zl4:∀(d:Fin 10)(j:Fin 7),(Ea.Bf 1 d.1).getD j.1 false= !(Ea.Bf 0 d.1).getD (6-j.1) false:=by decide
def xT:∀(t:Fin 3)(d:Fin 10),(Ea.Bf t.1 d.1).length=7:=by decide
def Own.cells{t:TypeId}{w:World}{B:Nat}{v:Value}{m:List Bool}(h:Own t w B v (m.map encT))(hm:0<m.length):
 ∃g c,v=.slice (some ⟨g,0,none⟩) m.length c/\B<=g/\g<w.heap.size/\∀i,i<m.length->w.cell? ⟨g,i,none⟩=some (.bool (m.getD i false)):=by
 have h0:=h;rcases h.2 with⟨_,hz⟩|⟨g,cap,cur,hv,Ki,hb,_⟩
 .rw[M0]at hz;omega
 .rw[M0]at hv;refine⟨g,cap,hv,Ki,(V3.1 hb).1,λi hi=> ?_⟩;subst hv;have:=World.ownsRow.cellAt (by unfold Own at h0;rw[M0]at h0;exact h0) i C0;rw[this,B3,P0 hi,F1,P0 hi];rfl
def Zjx(d t:Nat)(hd:d<10)(ht:t<3)(w:World):Calls prog 246 #[.int .i64 (d:Int),.int .i64 (t:Int)] w (ZM (Ea.Bf t d) w):=by
 have hc:=Zmt d hd w;have Ml:(Ea.Bf 0 d).length=7:=xT ⟨0,by omega⟩ ⟨d,hd⟩;have aAd:(Ea.Bf t d).length=7:=xT ⟨t,ht⟩ ⟨d,hd⟩;have HM:=B0 (λw=>ZE (Ea.bS (Ea.mS (Ea.Bf 0 d))) (Ea.Bf 0 d) (Ea.Bw _) C0 w);have h':t=0\/t=1\/t=2:=by omega
 have H2:Hid (∀j,j<7->(Ea.Bf 2 d).getD j false= !(Ea.Bf 0 d).getD j false):=B0 (λj hj=>Zl5 ⟨d,hd⟩ ⟨j,hj⟩);have H1:Hid (∀j,j<7->(Ea.Bf 1 d).getD j false= !(Ea.Bf 0 d).getD (6-j) false):=B0 (λj hj=>Zl4 ⟨d,hd⟩ ⟨j,hj⟩);obtain⟨m,hm⟩:∃m,Ea.Bf 0 d=m:=⟨_,rfl⟩;have HM0:=B0 hm;obtain⟨X,hX⟩:∃X,Ea.bS (Ea.mS (Ea.Bf 0 d))=X:=⟨_,rfl⟩;rw[hX]at hc HM;rw[hm]at HM Ml H1 H2;clear hm hX;rcases h' with rfl|rfl|rfl;·go_enter func246,ntmps246;go_wp2_with fail;refine(HM.out _).mono ?_;rintro e w1 ⟨v,rfl,b8,hx⟩;go_wp2;go_ret;exact⟨_,rfl,by rw[HM0.out];exact b8.mono L0,((Ext.refl w).alloc _).trans hx⟩
 .obtain⟨r,hr⟩:∃r,Ea.Bf 1 d=r:=⟨_,rfl⟩;rw[hr]at H1 aAd⊢;rw[show((1:Nat):Int)=1 from rfl];clear hr H2;have IT:∀w,(Instr.makeSlice 26 (.int .i64 7) (.int .i64 7)).run prog w=.ok (.slice (some ⟨w.heap.size,0,none⟩) 7 7) (w.alloc (.cells (madeCells #[.bool false] 7) 4)):=λw=>J7 (P:=prog) 26 4 (.bool false) 1 underlying26 N0 rfl .i64 .i64 7 C0 C0 w;have Bt:=B0 (And.intro Ml aAd);clear Ml aAd HM0;go_enter func246,ntmps246;go_wp2_with fail;refine(HM.out _).mono ?_;rintro e w1 ⟨v,rfl,b8,hx⟩;obtain⟨g,c,rfl,hgB,hgs,Sn⟩:=b8.cells (by rw[Bt.out.1];omega);rw[Bt.out.1]at Sn;rw[Bt.out.1];have HGC:=B0 Sn;have n8:=((Ext.refl w).alloc _).trans hx;have o4:=n8.size;clear b8 hx hgB Sn hc;go_wp2;clear IT;go_loopw [7] (λi wr=>∃j:Nat,j<=7/\i=.int .i64 (j:Int)/\wr.rowIs w1.heap.size 4 7 (λk=>if k<j then encT (r.getD k false)else .bool false)/\Ext w1 wr) (λi _=>7-(intOf i).toNat);(case atStart=>exact lX);case round=>obtain⟨j,hj,rfl,k9,j3⟩:=hrel;by_cases hlt:j<7;(·have Eh:=k9.cell hlt;have Gg:=k9.frozen j;have HV:=B0 (H1.out j hlt);obtain⟨q,hq⟩:∃q,6-j=q:=⟨_,rfl⟩;have Ys:(6:Int)-(j:Int)=(q:Int):=C0;have hq7:q<7:=C0;rw[hq]at HV;clear hq;have Bc:=(j3.cell (p:=⟨g,q,none⟩) hgs).trans (HGC.out q C0);obtain⟨b,hb⟩:∃b,m.getD q false=b:=⟨_,rfl⟩;exact lY);·exact lZ
 .obtain⟨r,hr⟩:∃r,Ea.Bf 2 d=r:=⟨_,rfl⟩;rw[hr]at H2 aAd⊢;rw[show((2:Nat):Int)=2 from rfl];clear hr H1;have IT:∀w,(Instr.makeSlice 26 (.int .i64 7) (.int .i64 7)).run prog w=.ok (.slice (some ⟨w.heap.size,0,none⟩) 7 7) (w.alloc (.cells (madeCells #[.bool false] 7) 4)):=λw=>J7 (P:=prog) 26 4 (.bool false) 1 underlying26 N0 rfl .i64 .i64 7 C0 C0 w;have Bt:=B0 (And.intro Ml aAd);clear Ml aAd HM0;go_enter func246,ntmps246;go_wp2_with fail;refine(HM.out _).mono ?_;rintro e w1 ⟨v,rfl,b8,hx⟩;obtain⟨g,c,rfl,hgB,hgs,Sn⟩:=b8.cells (by rw[Bt.out.1];omega);rw[Bt.out.1]at Sn;rw[Bt.out.1];have HGC:=B0 Sn;have n8:=((Ext.refl w).alloc _).trans hx;have o4:=n8.size;clear b8 hx hgB Sn hc;go_wp2;clear IT;go_loopw [7] (λi wr=>∃j:Nat,j<=7/\i=.int .i64 (j:Int)/\wr.rowIs w1.heap.size 4 7 (λk=>if k<j then encT (r.getD k false)else .bool false)/\Ext w1 wr) (λi _=>7-(intOf i).toNat);(case atStart=>exact lX);case round=>obtain⟨j,hj,rfl,k9,j3⟩:=hrel;by_cases hlt:j<7;(·have Eh:=k9.cell hlt;have Gg:=k9.frozen j;have HV:=B0 (H2.out j hlt);have Bc:=(j3.cell (p:=⟨g,j,none⟩) hgs).trans (HGC.out j C0);obtain⟨b,hb⟩:∃b,m.getD j false=b:=⟨_,rfl⟩;exact lY);·exact lZ
end
end Go.Proofs.Enc
section
namespace Go.Proofs.Enc
open Go.Proofs.Tryz
open Go.RowKit
def JC:(prog.info? 4).map (λi=>(i.zero,i.size,i.bytes))=some (some (.bool false),1,1):=D1
def YH(w:World)(v:Value)(ls:List (List Bool)):Prop:=∃us:List Value,Sl w v us/\us.length=ls.length/\∀i,i<ls.length->Own 4 w 0 (us.getD i undef) ((ls.getD i []).map encT)
def YH.ext{w w':World}{v:Value}{ls:List (List Bool)}(h:YH w v ls)(hx:Ext w w'):YH w' v ls:=by obtain⟨us,h1,h2,h3⟩:=h;exact⟨us,h1.ext hx,h2,λi hi=>(h3 i hi).ext hx⟩
def T7(w:World)(us:Array Value)(ls:List (List Bool))(t:TypeId)(h:us.size=ls.length)(h0:0<us.size)(hn:∀i,i<ls.length->Own 4 w 0 (us.getD i undef) ((ls.getD i []).map encT)):
 YH (w.alloc (.cells us t)) (.slice (some ⟨w.heap.size,0,none⟩) us.size us.size) ls:=by
 refine⟨us.toList,.inr ⟨w.heap.size,0,us.size,by simp,by simp,λi hi=> ?_⟩,by simp[h],λi hi=> ?_⟩
 .rw[WG]at hi;rw[Nat.zero_add,R7 us t w (LS hi)];simp[hi]
 .have:=(hn i hi).alloc (.cells us t);rw[show us.toList.getD i undef=us.getD i undef by simp];exact L3
def ZV(v:Value)(ls:List (List Bool))(w:World)(hv:YH w v ls)(hl:ls.length<=100)(hf:ls.flatten.length<=1000000):
 Calls prog 121 #[v] w (ZM ls.flatten w):=by
 obtain⟨us,h1,h2,h3⟩:=hv;obtain⟨a,c,rfl⟩:=h1.form;have HV:=B0 h1;have HO:=B0 h3;have HF:=B0 hf;rw[h2];have HU:=B0 h2;clear h1 h2 h3 hf;go_enter func121,ntmps121;go_wp2;go_loopw [3,4] (λv3 v4 wr=>∃k:Nat,k<=ls.length/\v4=.int .i64 (k:Int)/\Own 4 wr w.heap.size v3 ((ls.take k).flatten.map encT)/\Ext w wr) (λ_ v4 _=>ls.length-(intOf v4).toNat)
 case atStart=>exact OH
 case round=>obtain⟨k,hk,rfl,b8,j3⟩:=hrel;by_cases hlt:k<ls.length;(·obtain⟨b,off,ha,hb,hc⟩:=HV.out.at_ (k:=k) xU;subst ha;have Eg:=(j3.cell (p:=⟨b,off+k,none⟩) hb).trans hc;have hou:=(HO.out k hlt).ext j3;obtain⟨u,hu⟩:∃u,us[k]' xU=u:=⟨_,rfl⟩;rw[show us.getD k undef=u by rw[<-hu,F1,P0 xU];rfl]at hou;rw[hu]at Eg;obtain⟨l,Ni⟩:∃l,ls.getD k []=l:=⟨_,rfl⟩;rw[Ni]at hou;have HT:Hid ((ls.take (k+1)).flatten=(ls.take k).flatten++l):=B0 (by rw[L9 hlt,xV,<-Ni,F1,P0 hlt];simp);have De:(ls.take k).flatten.length+l.length<=1000000:=(by rw[<-S0,<-HT.out];have h5:ls.flatten=(ls.take (k+1)).flatten++(ls.drop (k+1)).flatten:=(by rw[<-xV,G7]);have:=HF.out;rw[h5,S0]at this;omega);generalize(ls.take k).flatten=got at*;clear hu Ni hc;go_wp2_with (at_builtin;refine lV rfl _ _ 26 4 (.bool false) 1 rfl underlying26 JC rfl I0 w.heap.size _ _ rfl b8 0 u (l.map encT) rfl hou (JA l) ?c1 ?c2 ?_);(case c1=>exact X0);(case c2=>exact j3.size);intro v' w5 l6 j6;have j5:=j3.l8 j6 b8.low;clear b8 j6 hou Eg j3;exact xS);·obtain rfl:k=ls.length:=C0;rw[J6]at b8;clear hk hlt;go_wp2;go_ret;exact⟨_,rfl,b8,j3⟩
def Zn9(s:ByteArray)(k:Nat)(h0:¬k=0)(h:k<s.size):¬s.data.toList.take k=[]:=by
 intro e;have h9:min k s.size=0:=by simpa[Za]using V0 List.length e
 omega
def mA(sep:List Bool):∀(l:List UInt8)(us:List Nat)(c:UInt8)(t:Nat),us.length=l.length->Ea.drw sep (l++[c]) (us++[t])=(if l=[]then []else Ea.drw sep l us++sep)++Ea.Bf t (c.toNat-48)
 | [],[],c,t,_=>by simp[Ea.drw]
 | [],_::_,c,t,h=>by simp at h
 |_::_,[],c,t,h=>by simp at h
 | [d],[u],c,t,_=>by simp[Ea.drw]
 | [d],_::_::_,c,t,h=>by simp at h
 |_::_::_,[_],c,t,h=>by simp at h
 |d::e::l,u::v::us,c,t,h=>by have ih:=mA sep (e::l) (v::us) c t Y4;rw[D0 L0]at ih⊢;simp only[C3]at ih⊢;rw[Ea.drw,ih,Ea.drw];simp[V1]
def XQ(s u b:ByteArray)(us:List Nat)(sep:List Bool)(hd:Ea.o6 s.data.toList=true)(hu:u.data.toList=zS us)(Fw:∀x∈us,x<3)(hb:b.data.toList=Ea.mS sep)(hl:us.length=s.size)(hs:s.size<=100)(aCa:sep.length<=100)(w:World):
 Calls prog 191 #[.string s,.string u,.string b] w (ZM (Ea.drw sep s.data.toList us) w):=by
 have HD:=B0 hd;have HU:=B0 hu;have HU3:=B0 Fw;have HL:=B0 hl;have aEJ:u.size=s.size:=by rw[Zd hu,ZoH,hl]
 have HUS:=B0 aEJ;have Ls:=B0 (λw=>ZE b sep hb C0 w);have Om:Hid (∀k,k<=s.size->(Ea.drw sep (s.data.toList.take k) (us.take k)).length<=107*k):=B0 (λk hk=>by rw[Ea.drw_len sep _ _ (Ea.Gx hd k) (by rw[J1,J1,Za];omega) (λx hx=>Fw x (I4 hx)),J1,Za,D7 hk];have:sep.length*(k-1)<=100*k:=O9 aCa C0;omega);have aJL:u.size<=100:=by omega
 clear hd hu Fw hb hl aEJ;go_enter func191,ntmps191;go_wp2;go_loopw [7,8] (λv7 v8 wr=>∃k:Nat,k<=s.size/\v8=.int .i64 (k:Int)/\Own 4 wr w.heap.size v7 ((Ea.drw sep (s.data.toList.take k) (us.take k)).map encT)/\Ext w wr) (λ_ v8 _=>s.size-(intOf v8).toNat)
 case atStart=>exact OH
 case round=>obtain⟨k,hk,rfl,b8,j3⟩:=hrel;by_cases hlt:k<s.size;(·have hku:k<u.size:=(by rw[HUS.out];exact hlt);have hks:k<us.length:=(by rw[HL.out];exact hlt);obtain⟨tt,htt⟩:∃tt,us[k]=tt:=⟨_,rfl⟩;have ht3:tt<3:=HU3.out tt (by rw[<-htt];exact YL _);have Si:=(Ea.aAu HD.out) s[k] (Zl s k hlt);have huk:u[k].toNat=48+tt:=(by have h1:u.data.toList[k]? =some u[k]:=P0 (by rw[Za];exact hku);rw[HU.out]at h1;unfold zS at h1;rw[B3,P0 hks,htt]at h1;have h2:Ea.chr tt=u[k]:=YW;rw[<-h2];unfold Ea.chr;rw[Ea.chr_nat C0]);obtain⟨dd,Dx⟩:∃dd,s[k].toNat-48=dd:=⟨_,rfl⟩;have Se:dd<10:=C0;have aCT:(s[k].toNat:Int)=((48+dd:Nat):Int):=C0;have aCU:(u[k].toNat:Int)=((48+tt:Nat):Int):=C0;have HTB:=B0 (λw=>Zjx dd tt Se ht3 w);have Hv:IntKind.u8.wrap (dd:Int)=(dd:Int):=IntWalk.u8_in _ C0;have Yv:IntKind.u8.wrap (tt:Int)=(tt:Int):=IntWalk.u8_in _ C0;have Td:IntKind.i64.wrap (dd:Int)=(dd:Int):=X4 _ C0;have hw4:IntKind.i64.wrap (tt:Int)=(tt:Int):=X4 _ C0;have Ek:(48:Int)+(dd:Int)-48=(dd:Int):=C0;have hw6:(48:Int)+(tt:Int)-48=(tt:Int):=C0;have Cp:Hid (Ea.drw sep (s.data.toList.take (k+1)) (us.take (k+1))=(if k=0 then []else Ea.drw sep (s.data.toList.take k) (us.take k)++sep)++Ea.Bf tt dd):=B0 (by rw[Z1 s k hlt,L9 hks,htt,mA sep _ _ _ _ (by have:=HL.out;rw[J1,J1,Za];omega),Dx];congr 1;by_cases h0:k=0;(·rw[G0 h0,G0 TK]);·rw[D0 h0,D0 (Zn9 s k h0 hlt)]);have hlen:=Om.out k hk;have hm7:(Ea.Bf tt dd).length=7:=xT ⟨tt,ht3⟩ ⟨dd,Se⟩;obtain⟨got,Od⟩:∃got,Ea.drw sep (s.data.toList.take k) (us.take k)=got:=⟨_,rfl⟩;have HG0:=B0 Od;rw[Od]at b8 Cp hlen;clear Od;clear htt Si huk Dx;by_cases h0:k=0;(·have b0:decide (0<(k:Int))=false:=G1 C0;have b1:decide (0<k)=false:=G1 C0;have Ew:k<=0:=C0;rw[G0 h0,G4]at Cp;have aEp:Hid (got=[]):=B0 (by rw[<-HG0.out,h0];rfl);clear h0;go_wp2_with fail;refine ZG 12 2 rfl [21,22,23,24,25,26,27,28,29,30,31,32] [[],[],[],[1,2],[3],[4],[],[],[6,7],[8],[9],[5,10]] N0 N0 ?_;apply Zb;(·intro V w' hx hf;(with_reducible refine Zc ?_);intro A ρ hA hρ n6 o5;have h7:ρ (.tmp 7)=u7:=(Y0 hρ _).trans (ZL hA 7 rfl);exact xW);apply Zb;(·exact JD);apply Zb;(·exact JE);apply Zb;(·exact mB);apply Zb;(·exact mC);apply Zb;(·exact mD);apply Zb;(·exact mF);apply Zb;(·exact JE);apply Zb;(·exact mG);apply Zb;(·exact mH);apply Zb;(·exact mI);refine Zg (λv w=>Own 4 w 0 v ((Ea.Bf tt dd).map encT)) (λ_ _ _ h hx=>h.ext hx) ?_ ?_;(·exact mJ);intro V wT Gt hf;obtain⟨g21,g22,g23,g24,g25,g26,g27,g28,g29,g30,g31,g32,_⟩:=hf;refine lN 12 33 7 _ _ N0 rfl rfl N0 rfl rfl (.inr rfl) N0 rfl rfl rfl (λK hK=> ?_);refine xR (.tmp 21) (.tmp 32) 26 4 (.bool false) 1 rfl underlying26 JC rfl I0 w.heap.size u7 (got.map encT) ((Ze rfl 21 rfl).trans g21) (b8.ext Gt) 0 (V 32) ((Ea.Bf tt dd).map encT) (Ze rfl 32 rfl) g32 (JA _) mK (by have:=Gt.size;have:=j3.size;omega) ?_;intro v' w5 l6 j6;refine hK _ _ ?_;simp only[Zs,N3,B6,Act.put,H9,O6,E6];have j5:=(j3.trans Gt).l8 j6 (λk hk=>b8.low k hk);clear g21 g22 g23 g24 g25 g26 g27 g28 g29 g30 g31 g32 b8 j6 aCT aCU Hv Yv Td hw4 Ek hw6;go_wp2;go_roundw;(case rel=>exact⟨k+1,by omega,by go_num,by rw[Cp.out];rw[aEp.out]at l6;exact l6,j5⟩);case measure=>exact QH);·have b0:decide (0<(k:Int))=true:=C1 C0;have b1:decide (0<k)=true:=C1 C0;have Ew:0<k:=C0;rw[D0 h0]at Cp;clear h0;have hgp:got.length<=10700:=C0;go_wp2_with fail;refine(Ls.out _).mono ?_;rintro e w3 ⟨vm,rfl,Ss,j4⟩;go_wp2_with (at_builtin;refine lV rfl _ _ 26 4 (.bool false) 1 rfl underlying26 JC rfl I0 w.heap.size u7 (got.map encT) rfl (b8.ext j4) wr.heap.size vm (sep.map encT) rfl Ss (JA sep) ?c1 ?c2 ?_);(case c1=>rw[M0,M0];omega);(case c2=>exact(j3.trans j4).size);intro vs w4 Ai Et;rw[<-R2]at Ai;have j9:=(j3.trans j4).l8 Et (λk hk=>b8.low k hk);clear b8 Et Ss j4 j3;have j3:=j9;clear j9;have Pn:(got++sep).length<=10800:=(by rw[S0];omega);go_wp2_with fail;refine ZG 12 2 rfl [21,22,23,24,25,26,27,28,29,30,31,32] [[],[],[],[1,2],[3],[4],[],[],[6,7],[8],[9],[5,10]] N0 N0 ?_;apply Zb;(·intro V w' hx hf;(with_reducible refine Zc ?_);intro A ρ hA hρ n6 o5;have h7:ρ (.tmp 7)=vs:=(Y0 hρ _).trans (ZL hA 7 rfl);exact xW);apply Zb;(·exact JD);apply Zb;(·exact JE);apply Zb;(·exact mB);apply Zb;(·exact mC);apply Zb;(·exact mD);apply Zb;(·exact mF);apply Zb;(·exact JE);apply Zb;(·exact mG);apply Zb;(·exact mH);apply Zb;(·exact mI);refine Zg (λv w=>Own 4 w 0 v ((Ea.Bf tt dd).map encT)) (λ_ _ _ h hx=>h.ext hx) ?_ ?_;(·exact mJ);intro V wT Gt hf;obtain⟨g21,g22,g23,g24,g25,g26,g27,g28,g29,g30,g31,g32,_⟩:=hf;refine lN 12 33 7 _ _ N0 rfl rfl N0 rfl rfl (.inr rfl) N0 rfl rfl rfl (λK hK=> ?_);refine xR (.tmp 21) (.tmp 32) 26 4 (.bool false) 1 rfl underlying26 JC rfl I0 w.heap.size vs ((got++sep).map encT) ((Ze rfl 21 rfl).trans g21) (Ai.ext Gt) 0 (V 32) ((Ea.Bf tt dd).map encT) (Ze rfl 32 rfl) g32 (JA _) mK (by have:=Gt.size;have:=j3.size;omega) ?_;intro v' w5 l6 j6;refine hK _ _ ?_;simp only[Zs,N3,B6,Act.put,H9,O6,E6];have j5:=(j3.trans Gt).l8 j6 (λk hk=>Ai.low k hk);clear g21 g22 g23 g24 g25 g26 g27 g28 g29 g30 g31 g32 Ai j6 aCT aCU Hv Yv Td hw4 Ek hw6;go_wp2;go_roundw;(case rel=>exact⟨k+1,by omega,by go_num,by rw[Cp.out,R2];exact l6,j5⟩);case measure=>exact QH);·obtain rfl:k=s.size:=C0;rw[Zu,show us.take s.size=us by rw[<-HL.out,J6]]at b8;clear hk hlt;go_wp2;go_ret;exact⟨_,rfl,b8,j3⟩
end Go.Proofs.Enc
namespace Go.Proofs.Enc
open Go.Proofs.Tryz
open Go.RowKit
def JF(n x:Nat)(X:ByteArray):Rel:=λv w=>∃b,v=.slice (some ⟨b,0,none⟩) n n/\b<w.heap.size/\w.cell? ⟨b,x,none⟩=some (.string X)
def JF.stable{n x:Nat}{X:ByteArray}:Rel.aAJ (JF n x X):=λ_ _ _ ⟨b,h1,h2,h3⟩ hx=>⟨b,h1,W1 h2 hx.size,(hx.cell (p:=⟨b,x,none⟩) h2).trans h3⟩
def JG(x:Nat)(X:ByteArray):Rel:=λv w=>∃b,v=.pointer (some ⟨b,x,none⟩)/\b<w.heap.size/\w.cell? ⟨b,x,none⟩=some (.string X)
def JG.stable{x:Nat}{X:ByteArray}:Rel.aAJ (JG x X):=λ_ _ _ ⟨b,h1,h2,h3⟩ hx=>⟨b,h1,W1 h2 hx.size,(hx.cell (p:=⟨b,x,none⟩) h2).trans h3⟩
def M8{c:UInt8}{d:Nat}(h:c.toNat=48+d)(hd:d<=9):
 (c.toNat:Int)=((48+d:Nat):Int)/\IntKind.u8.wrap (d:Int)=(d:Int)/\IntKind.i64.wrap (d:Int)=(d:Int)/\(48:Int)+(d:Int)-48=(d:Int):=
 ⟨by omega,IntWalk.u8_in _ C0,X4 _ C0,by omega⟩
def N8{s:ByteArray}(hd:Ea.o6 s.data.toList=true)(i:Nat)(h:i<s.size):∃d,s[i].toNat=48+d/\d<=9/\Ea.dv s.data.toList i=d:=by have h1:=Ea.Ck.1 hd s[i] (Zl s i h);refine⟨s[i].toNat-48,by omega,by omega,?_⟩;unfold Ea.dv;exact UT
def Zjn:∀c:Fin 10,zS (Ea.Fj 1 c.1)=(zS (Ea.Fj 0 c.1)).map (λx=>97-x):=by decide
def Zh8:∀c:Fin 10,(zS (Ea.Fj 0 c.1)).all (λx=>decide (48<=x.toNat)&&decide (x.toNat<=49))=true:=by decide
def Zk1:∀c:Fin 10,(zS (Ea.Fj 0 c.1)).length=6:=by decide
def Zjv(y c:Nat)(hy:y<2)(hc:c<10)(w:World):Calls prog 192 #[.int .i64 (y:Int),.int .i64 (c:Int)] w λe w'=>e=.returned (.string (Ea.bS (zS (Ea.Fj y c))))/\Ext w w':=by
 have x8:=Zn2 c hc w;have h':y=0\/y=1:=by omega
 rcases h' with rfl|rfl;·go_enter func192,ntmps192;exact P9
 .rw[Zjn ⟨c,hc⟩];have H1:=B0 (Zh8 ⟨c,hc⟩);have HL:=B0 (Zk1 ⟨c,hc⟩);dsimp only at H1 HL⊢;obtain⟨S,hS⟩:∃S,Ea.bS (zS (Ea.Fj 0 c))=S:=⟨_,rfl⟩;have HS:Hid (S.data.toList=zS (Ea.Fj 0 c)):=B0 (by rw[<-hS,Ea.Bw]);rw[hS]at x8;generalize zS (Ea.Fj 0 c)=l at*;have hSz:S.size=6:=(by rw[Zd HS.out,HL.out]);have hS6:S.size<=6:=C0;rw[show((1:Nat):Int)=1 from rfl];have n8:=(Ext.refl w).alloc (.cells #[.string ⟨#[49,49,49,48,48,48]⟩,.string ⟨#[49,49,48,49,48,48]⟩,.string ⟨#[49,49,48,48,49,48]⟩,.string ⟨#[49,49,48,48,48,49]⟩,.string ⟨#[49,48,49,49,48,48]⟩,.string ⟨#[49,48,48,49,49,48]⟩,.string ⟨#[49,48,48,48,49,49]⟩,.string ⟨#[49,48,49,48,49,48]⟩,.string ⟨#[49,48,49,48,48,49]⟩,.string ⟨#[49,48,48,49,48,49]⟩] 9);have Vf:=B0 n8;clear hS hSz n8;go_enter func192,ntmps192;go_wp2;go_loopw [6,7] (λv6 v7 wr=>∃k:Nat,k<=S.size/\v7=.int .i64 (k:Int)/\Own 5 wr w.heap.size v6 (((S.data.toList.take k).map (λx=>97-x)).map encB)/\Ext w wr) (λ_ v7 _=>S.size-(intOf v7).toNat);(case atStart=>exact⟨0,R0 _,rfl,Own.nil _ _ _,Vf.out⟩);case round=>obtain⟨k,hk,rfl,b8,j3⟩:=hrel;by_cases hlt:k<S.size;(·have hb:48<=S[k].toNat/\S[k].toNat<=49:=(by have:=H1.out;rw[<-HS.out,M1]at this;have:=this S[k] (Zl S k hlt);exact I6);obtain⟨o8,n7⟩:=hb;have HT:Hid ((S.data.toList.take (k+1)).map (λx=>97-x)=(S.data.toList.take k).map (λx=>97-x)++[97-S[k]]):=B0 (by rw[Z1 S k hlt,R2];rfl);have aAV:((97-S[k]:UInt8).toNat:Int)=97-(S[k].toNat:Int):=(by rw[UInt8.toNat_sub_of_le _ _ (by rw[PI,show(97:UInt8).toNat=97 from rfl];omega),show(97:UInt8).toNat=97 from rfl];omega);have De:((S.data.toList.take k).map (λx=>97-x)).length<=k:=xX;generalize(S.data.toList.take k).map (λx=>97-x)=got at*;go_wp2_with (at_builtin;refine kB rfl _ _ rfl w.heap.size _ got rfl (b8.alloc _) _ (97-S[k]) rfl ?c1 ?c2 ?c3 ?_);(case c1=>simp[go_sem,encB,aAV]);(case c2=>omega);(case c3=>have:=j3.size;exact X0);intro v' w5 l6 j6;have j5:=(j3.alloc _).l8 j6 b8.low;clear b8 j6 aAV;exact xS);·obtain rfl:k=S.size:=C0;rw[Zu]at b8;have Cv:=Zp b8.sl;have HG:Hid (Ending.returned (.string ⟨((S.data.toList.map (λx=>97-x))).toArray⟩)=.returned (.string (Ea.bS (l.map (λx=>97-x))))):=B0 (by rw[HS.out];rfl);clear hk hlt b8;go_wp2;go_ret;exact⟨HG.out,j3⟩
def Zha(s:ByteArray)(h2:s.size=2)(hd:Ea.o6 s.data.toList=true)(w:World):
 Calls prog 194 #[.string s] w λe w'=>e=.returned (.string (Ea.bS (zS (Ea.Da s.data.toList))))/\Ext w w':=by
 have b2:((s.size:Int)==2)=true:=by rw[h2];rfl
 have An:0<s.size:=by omega
 have p8:1<s.size:=by omega
 obtain⟨d0,e0,l0,v0⟩:=N8 hd 0 An;obtain⟨d1,e1,l1,v1⟩:=N8 hd 1 p8;obtain⟨Ew,Gj,Mj,IC⟩:=M8 e0 l0;obtain⟨Hr,Ca,Gh,s5⟩:=M8 e1 l1;obtain⟨x,hx⟩:∃x,(10*d0+d1)%4=x:=⟨_,rfl⟩;have hmA:IntKind.i64.wrap (10*(d0:Int))=10*(d0:Int):=X4 _ C0;have hmB:IntKind.i64.wrap (10*(d0:Int)+(d1:Int))=10*(d0:Int)+(d1:Int):=X4 _ C0;have hm:(10*(d0:Int)+(d1:Int)).tmod 4=(x:Int):=LU;have j9:x<4:=by omega
 have n8:IntKind.i64.wrap (x:Int)=(x:Int):=X4 _ C0;have HX:Hid (Ea.aAC.getD x []=Ea.Da s.data.toList):=B0 (by unfold Ea.Da;rw[G0 (by rw[Za];exact h2),v0,v1,hx]);obtain⟨X,hX⟩:∃X,Ea.bS (zS (Ea.aAC.getD x []))=X:=⟨_,rfl⟩;have Eb:=B0 (λw=>ZmA x j9 w);rw[hX]at Eb;rw[<-HX.out,hX];clear hX HX hd e0 e1 v0 v1 hx h2;go_enter func194,ntmps194;go_wp2_with fail;refine ZG 14 1 rfl [7,8,9,10,11,12,13,14,15,16,17,18,19,20] [[],[],[1],[2],[3],[4],[],[6],[7],[8],[5,9],[10],[0,11],[12]] N0 N0 ?_;refine Zg (JF 4 x X) (JF.stable) ?_ ?_
 .intro V w' hx hf;(with_reducible refine Zc ?_);intro A ρ hA hρ n6 o5;simp[Zh,go_sem,n6];exact⟨(Ext.refl w').alloc _,w'.heap.size,rfl,by simp,Eb.out w'⟩
 apply Zb
 .exact JD
 apply Zb
 .intro V w' hx hf;(with_reducible refine Zc ?_);intro A ρ hA hρ n6 o5;obtain⟨f8,_⟩:=hf;have h8:ρ (.tmp 8)=_:=(Y0 hρ _).trans ((Ze hA 8 rfl).trans f8);simp[Zh,go_sem,n6,↓IntWalk.iteOmega,Ext.refl,h8,Ew];rfl
 apply Zb
 .intro V w' hx hf;(with_reducible refine Zc ?_);intro A ρ hA hρ n6 o5;obtain⟨f9,_⟩:=hf;have h9:ρ (.tmp 9)=_:=(Y0 hρ _).trans ((Ze hA 9 rfl).trans f9);simp[Zh,go_sem,n6,Ext.refl,h9,Gj,IC];rfl
 apply Zb
 .intro V w' hx hf;(with_reducible refine Zc ?_);intro A ρ hA hρ n6 o5;obtain⟨f10,_⟩:=hf;have h10:ρ (.tmp 10)=_:=(Y0 hρ _).trans ((Ze hA 10 rfl).trans f10);simp[Zh,go_sem,Ext.refl,h10,Mj];rfl
 apply Zb
 .intro V w' hx hf;(with_reducible refine Zc ?_);intro A ρ hA hρ n6 o5;obtain⟨f11,_⟩:=hf;have Mc:ρ (.tmp 11)=_:=(Y0 hρ _).trans ((Ze hA 11 rfl).trans f11);simp[Zh,go_sem,n6,Ext.refl,Mc,hmA];rfl
 apply Zb
 .exact JD
 apply Zb
 .intro V w' hx hf;(with_reducible refine Zc ?_);intro A ρ hA hρ n6 o5;obtain⟨f13,_⟩:=hf;have Fe:ρ (.tmp 13)=_:=(Y0 hρ _).trans ((Ze hA 13 rfl).trans f13);simp[Zh,go_sem,n6,↓IntWalk.iteOmega,Ext.refl,Fe,Hr];rfl
 apply Zb
 .intro V w' hx hf;(with_reducible refine Zc ?_);intro A ρ hA hρ n6 o5;obtain⟨f14,_⟩:=hf;have h14:ρ (.tmp 14)=_:=(Y0 hρ _).trans ((Ze hA 14 rfl).trans f14);simp[Zh,go_sem,n6,Ext.refl,h14,Ca,s5];rfl
 apply Zb
 .intro V w' hx hf;(with_reducible refine Zc ?_);intro A ρ hA hρ n6 o5;obtain⟨f15,_⟩:=hf;have Xs:ρ (.tmp 15)=_:=(Y0 hρ _).trans ((Ze hA 15 rfl).trans f15);simp[Zh,go_sem,Ext.refl,Xs,Gh];rfl
 apply Zb
 .intro V w' hx hf;(with_reducible refine Zc ?_);intro A ρ hA hρ n6 o5;obtain⟨f12,f16,_⟩:=hf;have Kx:ρ (.tmp 12)=_:=(Y0 hρ _).trans ((Ze hA 12 rfl).trans f12);have Xt:ρ (.tmp 16)=_:=(Y0 hρ _).trans ((Ze hA 16 rfl).trans f16);simp[Zh,go_sem,Ext.refl,Kx,Xt,hmB];rfl
 apply Zb
 .intro V w' hx hf;(with_reducible refine Zc ?_);intro A ρ hA hρ n6 o5;obtain⟨f17,_⟩:=hf;have h17:ρ (.tmp 17)=_:=(Y0 hρ _).trans ((Ze hA 17 rfl).trans f17);simp[Zh,go_sem,n6,Ext.refl,h17,hm];rfl
 refine Zg (JG x X) (JG.stable) ?_ ?_
 .intro V w' hx hf;(with_reducible refine Zc ?_);intro A ρ hA hρ n6 o5;obtain⟨f7,f18,_⟩:=hf;have h7:ρ (.tmp 7)=V 7:=(Y0 hρ _).trans (Ze hA 7 rfl);have h18:ρ (.tmp 18)=_:=(Y0 hρ _).trans ((Ze hA 18 rfl).trans f18);obtain⟨b,e1,e2,e3⟩:=f7;have h7:=h7.trans e1;simp[Zh,go_sem,↓IntWalk.iteOmega,Ext.refl,h7,h18];exact⟨b,rfl,e2,e3⟩
 refine Zg (eqv (.string X)) (Zz _) ?_ ?_
 .intro V w' hx hf;(with_reducible refine Zc ?_);intro A ρ hA hρ n6 o5;obtain⟨f19,_⟩:=hf;have h19:ρ (.tmp 19)=V 19:=(Y0 hρ _).trans (Ze hA 19 rfl);obtain⟨b,e1,e2,e3⟩:=f19;have h19:=h19.trans e1;simp[Zh,go_sem,Ext.refl,h19,e3];rfl
 intro V wT Gt hf;obtain⟨g7,g8,g9,g10,g11,g12,g13,g14,g15,g16,g17,g18,g19,g20,_⟩:=hf;refine OG 14 20 2 _ N0 rfl rfl (.inr rfl) N0 rfl rfl ?_;have aF3:V 20=.string X:=g20;rw[aF3];simp only[Zs,N3,B6,Act.put,H9,O6,E6];go_wp2;go_ret;exact⟨rfl,Gt⟩
end Go.Proofs.Enc
namespace Go.Proofs.Enc
open Go.Proofs.Tryz
open Go.RowKit
def Zge(s:ByteArray)(h2:s.size=5)(hd:Ea.o6 s.data.toList=true)(w:World):
 Calls prog 194 #[.string s] w λe w'=>e=.returned (.string (Ea.bS (zS (Ea.Da s.data.toList))))/\Ext w w':=by
 have b2:((s.size:Int)==2)=false:=by rw[h2];rfl
 have An:0<s.size:=by omega
 obtain⟨d0,e0,l0,v0⟩:=N8 hd 0 An;obtain⟨Ew,Gj,Mj,IC⟩:=M8 e0 l0;have p8:1<s.size:=by omega
 obtain⟨d1,e1,l1,v1⟩:=N8 hd 1 p8;obtain⟨Hr,Ca,Gh,s5⟩:=M8 e1 l1;have x9:2<s.size:=by omega
 obtain⟨d2,e2,l2,v2⟩:=N8 hd 2 x9;obtain⟨Dy,ID,So,Cz⟩:=M8 e2 l2;have hz3:3<s.size:=by omega
 obtain⟨d3,e3,l3,v3⟩:=N8 hd 3 hz3;obtain⟨Jb,Fw,hi3,Pr⟩:=M8 e3 l3;have hz4:4<s.size:=by omega
 obtain⟨d4,e4,l4,v4⟩:=N8 hd 4 hz4;obtain⟨Nh,hu4,hi4,Wi⟩:=M8 e4 l4;have hmA:IntKind.i64.wrap ((d0:Int)+(d2:Int))=(d0:Int)+(d2:Int):=X4 _ C0;have hmB:IntKind.i64.wrap ((d0:Int)+(d2:Int)+(d4:Int))=(d0:Int)+(d2:Int)+(d4:Int):=X4 _ C0;have hmC:IntKind.i64.wrap (3*((d0:Int)+(d2:Int)+(d4:Int)))=3*((d0:Int)+(d2:Int)+(d4:Int)):=X4 _ C0;have hmD:IntKind.i64.wrap ((d1:Int)+(d3:Int))=(d1:Int)+(d3:Int):=X4 _ C0;have hmE:IntKind.i64.wrap (9*((d1:Int)+(d3:Int)))=9*((d1:Int)+(d3:Int)):=X4 _ C0;have hmF:IntKind.i64.wrap (3*((d0:Int)+(d2:Int)+(d4:Int))+9*((d1:Int)+(d3:Int)))=3*((d0:Int)+(d2:Int)+(d4:Int))+9*((d1:Int)+(d3:Int)):=X4 _ C0;obtain⟨x,hx⟩:∃x,(3*(d0+d2+d4)+9*(d1+d3))%10=x:=⟨_,rfl⟩;have hm:(3*((d0:Int)+(d2:Int)+(d4:Int))+9*((d1:Int)+(d3:Int))).tmod 10=(x:Int):=LU;have aBk:x<10:=by omega
 have HX:Hid (Ea.aAD.getD x []=Ea.Da s.data.toList):=B0 (by unfold Ea.Da;rw[D0 L7,v0,v1,v2,v3,v4,hx]);obtain⟨X,hX⟩:∃X,Ea.bS (zS (Ea.aAD.getD x []))=X:=⟨_,rfl⟩;have Eb:=B0 (λw=>ZmB x aBk w);rw[hX]at Eb;rw[<-HX.out,hX];have HM:=B0 hm;have HM2:Hid ((3*((d0:Int)+(d2:Int)+(d4:Int))+9*((d1:Int)+(d3:Int)))%10=(x:Int)):=B0 (by rw[<-hx];omega);clear hX HX hd e0 e1 e2 e3 e4 v0 v1 v2 v3 v4 hx h2 hm;go_enter func194,ntmps194;go_wp2_with fail;go_quiet (fail);have hm:=HM.out;have Cl:=HM2.out;have x8:=Eb.out (w.drewN nq);rw[show(w.drewN nq).heap.size=w.heap.size from rfl]at x8;have HXT:=B0 (((Ext.refl w).drewN nq).alloc);clear Ew Hr Dy Jb Nh Gj Ca ID Fw hu4 Mj Gh So hi3 hi4 IC s5 Cz Pr Wi hmA hmB hmC hmD hmE hmF;go_wp2;go_ret;exact⟨rfl,HXT.out _⟩
def ZgY(s:ByteArray)(h:s.size=2\/s.size=5)(hd:Ea.o6 s.data.toList=true)(w:World):
 Calls prog 194 #[.string s] w λe w'=>e=.returned (.string (Ea.bS (zS (Ea.Da s.data.toList))))/\Ext w w':=by
 rcases h with h|h
 .exact Zha s h hd w
 .exact Zge s h hd w
end Go.Proofs.Enc
end
