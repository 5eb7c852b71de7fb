/-
  Laid.
-/
import Derived.Test.YtbngggoccndefaaGreatDoorLe34
set_option maxHeartbeats 8000000
set_option maxRecDepth 100000
set_option linter.all false
namespace Go.Proofs.Enc
open Go.Proofs.Tryz
section
open Go.RowKit
def YJ(xs:List Int)(i:Nat)(L:List Int):Prop:=L.length=xs.length/\∀k,k<xs.length->L[k]? =if k<i\/xs.length-1-i<k then xs[xs.length-1-k]? else xs[k]?
def YJ.zero(xs:List Int):YJ xs 0 xs:=⟨rfl,λk hk=>by rw[D0 C0]⟩
def YJ.next{xs L:List Int}{i j:Nat}{x y:Int}(h:YJ xs i L)(hj:j=xs.length-1-i)(Sp:i<j)(hi:L[i]? =some x)(hy:L[j]? =some y):YJ xs (i+1) ((L.set i y).set j x):=by
 have b7:=h.2 i C0;rw[D0 C0,hi]at b7;have Yy:=h.2 j C0;rw[D0 C0,hy]at Yy;have Sr:=h.1;refine⟨by rw[P6,P6];exact h.1,λk hk=> ?_⟩;by_cases e1:j=k;·subst e1;rw[XD (by rw[P6,Sr];exact hk),G0 C0,show xs.length-1-j=i by omega,b7]
 .rw[XE e1];by_cases e2:i=k;(·subst e2;rw[XD (by rw[Sr];exact hk),G0 C0,<-hj,Yy]);·rw[XE e2,h.2 k hk];by_cases e3:k<i\/xs.length-1-i<k;(·rw[G0 e3,G0 C0]);·rw[D0 e3,D0 C0]
def YJ.all{xs L:List Int}{i:Nat}(h:YJ xs i L)(hi:xs.length-1<=2*i):L=xs.reverse:=by
 apply Y8;intro k;by_cases hk:k<xs.length;·rw[h.2 k hk,KZ hk];split;(·rfl);·congr 1;omega
 .rw[Y6 (by rw[h.1];omega),Y6 (by rw[D6];omega)]
def Zjg(g n c B:Nat)(xs:List Int)(w:World)(hn:xs.length=n)(hl:n<=1000000)(b8:Own 3 w B (.slice (some ⟨g,0,none⟩) n c) (xs.map encI)):
 Calls prog 45 #[.slice (some ⟨g,0,none⟩) n c] w λe w'=>e=.returned (.tuple #[])/\Own 3 w' B (.slice (some ⟨g,0,none⟩) n c) (xs.reverse.map encI)/\GB (some g) w w':=by
 have Lt:=B0 b8;have HN:=B0 hn;clear b8 hn;go_enter func45,ntmps45;go_wp2_with fail;go_loopw [2,3] (λti tj wr=>∃(i:Nat)(j:Int)(L:List Int),i<=n/\ti=.int .i64 (i:Int)/\tj=.int .i64 j/\j=(n:Int)-1-(i:Int)/\Hid (YJ xs i L)/\Hid (Own 3 wr B (.slice (some ⟨g,0,none⟩) n c) (L.map encI))/\Hid (GB (some g) w wr)) (λti _ _=>n-(intOf ti).toNat)
 case atStart=>exact⟨0,_,xs,R0 _,rfl,rfl,by omega,B0 (YJ.zero xs),Lt,B0 (GB.refl _)⟩
 case round=>
 clear Lt;obtain⟨i,jj,L,hi,rfl,rfl,hj,HR,HO,HG⟩:=hrel;by_cases hlt:(i:Int)<jj
 .obtain⟨j,rfl⟩:∃j:Nat,jj=(j:Int):=⟨jj.toNat,by omega⟩;have Vx:j<n:=C0;have Bd:i<n:=C0;have Kl:(i:Int)<(n:Int):=C0;have Bx:(j:Int)<(n:Int):=C0;have Kz:L.length=n:=(by rw[HR.out.1,HN.out]);obtain⟨x,hx⟩:∃x,L[i]? =some x:=⟨_,P0 C0⟩;obtain⟨y,hy⟩:∃y,L[j]? =some y:=⟨_,P0 C0⟩;obtain⟨b1,o1,Bu,-,Am⟩:=HO.out.IW.1.Af (c:=c) (n:=n) (Ext.refl wr) hx;injection Bu with Bu;injection Bu with q1 q2;subst q1 q2;obtain⟨b1,o1,Bu,-,IS⟩:=HO.out.IW.1.Af (c:=c) (n:=n) (Ext.refl wr) hy;injection Bu with Bu;injection Bu with q1 q2;subst q1 q2;rw[Nat.zero_add]at Am IS;obtain⟨_,_,f1⟩:=HO.out.aAA (i:=i) C0;obtain⟨_,_,f2⟩:=HO.out.aAA (i:=j) C0;have Rj:=B0 (HR.out.next (by rw[HN.out];omega) C0 hx hy);have Ed:=B0 (((HO.out.Pv i y).1.Pv j x).1);have HG9:=B0 ((HG.out.trans (ZR wr g i (.int .i64 y))).trans (ZR _ g j (.int .i64 x)));have HJ2:Hid ((j:Int)-1=(n:Int)-1-((i+1:Nat):Int)):=B0 C0;clear hx hy Kz hj;go_wp2_with fail;go_region;go_wp2_with fail;go_roundw;(case rel=>exact⟨i+1,_,_,by omega,by go_num,rfl,HJ2.out,Rj,B0 Ed.out.drew,B0 HG9.out.drew⟩);case measure=>exact Qr
 .have HF:Hid (L=xs.reverse):=B0 (HR.out.all (by rw[HN.out];omega));have hO:=HO.out;rw[HF.out]at hO;have Ed:=B0 hO;clear hO;go_wp2;go_end0;exact⟨rfl,by first|exact Ed.out|(rw[<-List.map_reverse];exact Ed.out),HG.out⟩
def ZkV(b o n c:Nat)(xs:List Int)(w:World)(hn:xs.length=n)(h1:1<=n)(hl:n<=1000000)(hv:Sl w (.slice (some ⟨b,o,none⟩) n c) (xs.map encI)):
 Calls prog 44 #[.slice (some ⟨b,o,none⟩) n c] w λe w'=>∃g c',e=.returned (.slice (some ⟨g,0,none⟩) n c')/\Own 3 w' w.heap.size (.slice (some ⟨g,0,none⟩) n c') (xs.map encI)/\Ext w w':=by
 have HV:=B0 hv;have HN:=B0 hn;have Lt:Hid (Own 3 (w.alloc (.cells #[] 3)) w.heap.size (.slice (some ⟨w.heap.size,0,none⟩) 0 0) []):=B0 ⟨rfl,.inr ⟨w.heap.size,0,#[],rfl,J0 _,X2 _ _,J0 _,by decide,rfl,rfl⟩⟩;have Ig:∀w:World,(binOp BinOp.eql 43 (.slice (some ⟨b,o,none⟩) n c) (.slice none 0 0)).run prog w=.ok (.bool false) w:=λw=>by kernel_rfl
 clear hv hn;go_enter func44,ntmps44;go_wp2_with (at_builtin;refine ZS rfl _ _ 43 3 (.int .i64 0) 8 rfl underlying43 WP rfl I0 w.heap.size _ [] rfl Lt.out b o n c (xs.map encI) rfl ?c1 ?c2 ?c3 ?c4 ?c5 ?_)
 case c1=>rw[M0];exact HN.out
 case c2=>intro j u hj;rcases HV.out.ext ((Ext.refl w).alloc (.cells #[] 3))with⟨h,_⟩|⟨b',o',cp,h,Kh,hc⟩;(·rw[h]at hj;cases hj);·injection h with e1 e2 e3;injection e1 with e1;injection e1 with e1 e4;subst e1 e4;have Du:=(N1.1 hj).1;rw[hc j Du];exact hj
 case c3=>intro y hy;obtain⟨z,_,rfl⟩:=I5.1 hy;rfl
 case c4=>exact X0
 case c5=>simp
 intro v' w5 l6 j6;have Yf:Ext w w5:=((Ext.refl w).alloc _).l8 j6 Lt.out.low;have l6:Own 3 w5 w.heap.size v' (xs.map encI):=l6;have hfm:∃g c',v'=.slice (some ⟨g,0,none⟩) n c':=by rcases l6.2 with⟨_,h⟩|⟨g,cap,cur,h,_⟩;(·rw[M0]at h;exact T9);·rw[M0,HN.out]at h;exact⟨g,cap,h⟩
 obtain⟨g,c',rfl⟩:=hfm;have s6:=B0 l6;have p7:=B0 Yf;clear l6 j6 Yf;go_wp2_with fail;go_ret;exact⟨g,c',rfl,s6.out,p7.out⟩
def Rn.aHn(m:List Bool):Rn.widths m=[]↔Rn.core m=[]:=by
 unfold Rn.widths Rn.widthsN;cases h:Rn.core m with
 |nil=>simp
 |cons b r=>dsimp only;constructor;(·intro e;have:=Rn.aH4 r b 1;exact absurd (List.map_eq_nil_iff.1 e) this);·intro e;cases e
def Zni{P:Int->Prop}{l:List Int}(h:∀x∈l,P x):∀x∈l.reverse,P x:=λx hx=>h x (CN.1 hx)
def yY(v:Value)(m:List Bool)(w:World)(hv:SlK w v (m.map encT))(hm:m.length<=1000000)(ht:ZQ w):
 Calls prog 15 #[v] w λe w'=>e=.returned (gotV (Ln.read m))/\Ext w w':=by
 have HT:=B0 ht;have Ec:=B0 (λw' (h:Ext w w')=>nR v m w' (hv.ext h).1 hm);have Kf:=B0 (λw' (h:Ext w w')=>BC v m w' (hv.ext h) hm);have Dp:=B0 (λw' (h:Ext w w')=>LH v m w' (hv.ext h) hm);obtain⟨Yw,aAW⟩:=Rn.widths_in m;obtain⟨hlA,hlB⟩:=Rn.aEQ m;have Si:=Ln.aFP m;have hwn:=Rn.aHn m;have HD:=B0 (Ln.read.eq_1 m);have HRV:=B0 (Ln.aHS m);have Dq:=B0 (show Ln.aAZ m=Ln.aAE (Rn.widths m) (Ea.ldg m) (Ea.Ac m)from rfl);generalize Ln.read m=res at*;obtain⟨-,a,c,rfl,-⟩:=hv;rw[M0]at Ec Kf Dp⊢;generalize Ea.ldg m=A at*;generalize Ea.Ac m=B at*;generalize Rn.widths m=ws at*;generalize m.length=ml at*;by_cases h4:65536<ml
 .have h4I:65536<(ml:Int):=C0;rw[G0 h4]at HD;clear h4 Ec Kf Dp Si hwn Yw aAW hlA hlB;go_enter func15,ntmps15;exact sQ
 have h4I:¬65536<(ml:Int):=by omega
 rw[D0 h4]at HD;cases Jm:Ln.Ro m with
 |false=>rw[Jm]at Ec HD;rw[G0 rfl]at HD;clear h4 Kf Dp Si hwn Yw aAW hlA hlB Jm;go_enter func15,ntmps15;go_wp2_with fail;refine(Ec.out _ Xf).mono ?_;rintro e w1 ⟨rfl,rfl⟩;exact sQ
 |true=>
 have k7:ws≠ []:=λe=>by have:=Si.2 (hwn.1 e);rw[Jm]at this;cases this
 rw[Jm]at Ec HD;rw[D0 I0]at HD;have Hv:∀x∈ws,1<=x/\x<=65536:=λx hx=>by have:=Yw x hx;omega
 have Ju:1<=ws.length:=D8.2 k7;obtain⟨n,hn⟩:∃n,n=ws.length:=⟨_,rfl⟩;have HN:=B0 hn;have HTY:=B0 (λv w' (h:Sl w' v (ws.map encI))(h2:ZQ w')=>nY v ws A B w' h k7 C0 Hv C0 C0 h2);have HTZ:=B0 (λv w' (h:Sl w' v (ws.reverse.map encI))(h2:ZQ w')=>nY v ws.reverse B A w' h (by simpa using k7) (by rw[D6];omega) (Zni Hv) C0 C0 h2);have hnl:n<=65536:=by omega
 have IU:1<=n:=by omega
 clear h4 Si hwn Yw hlA hlB Jm Hv k7 Ju aAW hn;go_enter func15,ntmps15;go_wp2_with fail;refine(Ec.out _ Xf).mono ?_;rintro e w1 ⟨rfl,rfl⟩;go_wp2_with fail;refine(Kf.out _ Xf).mono ?_;rintro e w2 ⟨u,rfl,hu,j0⟩;obtain⟨j8,au,cu,rfl,-⟩:=hu;rw[M0,<-HN.out]at j8⊢;obtain⟨x0,n9⟩:∃x,ws[0]? =some x:=⟨_,P0 G8⟩;obtain⟨b,o,ha,-,-⟩:=j8.Af (Ext.refl w2) n9;subst ha;have HU:=B0 j8;have IA:=B0 j0.before;have Ch:=B0 (ZO rfl j0);clear j8 n9 j0;go_wp2_with fail;refine(Dp.out w2 IA.out).mono ?_;rintro e w3 ⟨rfl,rfl⟩;go_wp2_with fail;refine(HTY.out _ w2 HU.out (Z4 HT.out IA.out)).mono ?_;rintro e w4 ⟨⟨rk,rt,ra⟩,rfl,ho,j9⟩;obtain⟨o1,ho1⟩:∃o1,o1=Ln.aAE ws A B:=⟨_,rfl⟩;rw[<-ho1]at ho Dq⊢;rw[Dq.out]at HD;have Ba:=B0 (IA.out.trans j9);have HB4:=B0 (Zf Ch.out j9);have HU4:=B0 (HU.out.ext j9);unfold linV;dsimp only;obtain⟨f0,f1,f2,f3,f4,f5,f6,f7⟩:=Zk HB4.out;clear ho1 j9;cases o1 with
 |some y=>have HF:Hid (res=((rk,rt,ra),0)):=B0 sR;clear HD ho;dsimp only[Option.isSome];go_wp2_with fail;refine J2 (Zj results15 rfl (Zf (Zm f7) ((Ext.refl _).alloc _)) rfl) rfl ?_;rw[HF.out];exact⟨rfl,(Z9 Ba.out (J0 _) _ _ _).alloc _⟩
 |none=>
  dsimp only at HD
  rw[HRV.out]at HD
  clear ho
  dsimp only[Option.isSome]
  go_wp2_with fail
  refine(ZkV b o n cu ws _ HN.out.symm IU C0 (HU4.out.ext ((Ext.refl _).alloc _))).mono ?_
  rintro e w5 ⟨g,c5,rfl,Cy,j5⟩
  have s6:=B0 Cy
  have Yf:=((Ext.refl w4).alloc (.cells #[.int .i64 rk,.string (Ea.bS rt),.string (Ea.bS ra)] 33)).trans j5
  have HG5:Hid (w4.heap.size<=g):=B0 (by have:=Cy.low g rfl;simp at this;omega)
  have p7:=B0 Yf
  clear Cy j5 Yf
  go_wp2_with fail
  refine(Zjg g n c5 _ ws w5 HN.out.symm C0 s6.out).mono ?_
  rintro e w6 ⟨rfl,Mo,Pk⟩
  have Lu:=B0 Mo
  have Hi:Hid (Ext w4 w6):=B0 (p7.out.l8 Pk (λk hk=>by injection hk with hk;subst hk;exact HG5.out))
  clear Mo Pk
  go_wp2_with fail
  refine(HTZ.out _ w6 Lu.out.IW.1 (Z4 HT.out (Ba.out.trans Hi.out))).mono ?_
  rintro e w7 ⟨⟨sk,st,sa⟩,rfl,ho,Ax⟩
  obtain⟨o2,ho2⟩:∃o2,o2=Ln.aAE ws.reverse B A:=⟨_,rfl⟩
  rw[<-ho2]at ho HD⊢
  have Rl:=B0 ((Ba.out.trans Hi.out).trans Ax)
  obtain⟨g0,g1,g2,g3,g4,g5,g6,g7⟩:=Zk (Zf (Zf HB4.out Hi.out) Ax)
  unfold linV
  dsimp only
  clear ho2 Ax f0 f1 f2 f3 f4 f5 f6 f7
  cases o2 with
  |some y=>have HF:Hid (res=((sk,st,sa),0)):=B0 sR;exact sT
  |none=>have HF:Hid (res=(Ln.zero,18)):=B0 HD.out;exact sT
end
section
namespace Ln
def Small(l:II):Prop:=0<=l.1/\l.1<=9/\l.2.1.length<=1000000/\l.2.2.length<=1000000
def full_len{k:Int}{l:List UInt8}(h:Ea.full k l=0):1<=k/\k<=4/\l.length<=13:=by
 unfold Ea.full at h;split at h;·cases h
 by_cases h0:Ea.size k=0;·unfold Ea.comp at h;rw[G0 h0]at h;cases h
 have hk:=Ea.kinds h0;have hs:Ea.size k<=13:=by unfold Ea.size;exact R5
 refine⟨by omega,by omega,?_⟩;unfold Ea.comp at h;rw[D0 h0]at h;split at h;·cases h
 split at h;·cases h
 omega
def sym_len{n:Nat}{s:List Bool}(h:(Ea.rdSym n s).2=0):1<=(Ea.rdSym n s).1.1/\(Ea.rdSym n s).1.1<=4/\(Ea.rdSym n s).1.2.length<=13:=by
 unfold Ea.rdSym at h⊢;split
 .rename_i h1;exact VY
 rename_i h1;rw[D0 h1]at h;split
 .rename_i h2;exact SZ
 rename_i h2;rw[D0 h2]at h;cases hr:Ea.rdK n s with
 |none=>rw[hr]at h;cases h
 |some l=>rw[hr]at h;dsimp only at h⊢;split;(·rename_i h3;exact LC);rename_i h3;have:=full_len (I9.1 h3);split;(·simp only[X1];omega);·exact L3
def ean_small{row:List Bool}(h:(Ea.dec row).2=0):Small (Ea.dec row).1:=by
 have h1:=Ea.aDV h;rw[h1]at h⊢;obtain⟨⟨n,a⟩,p1,p2,p3,p4⟩:=Ea.aFR Ea.aBU 7 I0 (λ_ _ _ _=>trivial) h;rw[p4];dsimp only at p2 p3 p4⊢;have hna:(a=0\/a=2\/a=5):=by unfold Ea.aBU at p1;simp at p1;omega
 unfold Ea.He at p3⊢;by_cases e1:(Ea.rdSym n ((Ea.trim row).take n)).2≠0;·rw[G0 e1]at p3;exact absurd p3 e1
 rw[D0 e1]at p3⊢;have hs:=sym_len (I9.1 e1);by_cases e2:a=0;·rw[G0 e2];exact⟨by dsimp only;omega,by dsimp only;omega,by dsimp only;omega,by simp⟩
 rw[D0 e2]at p3⊢;by_cases e3:(Ea.rdAdd a ((Ea.trim row).drop ((Ea.trim row).length-Ea.Co a))).2≠0;·rw[G0 e3]at p3;exact absurd p3 e3
 rw[D0 e3];have h5:=Ea.aHR (n:=a) (s:=(Ea.trim row).drop ((Ea.trim row).length-Ea.Co a)) C0 (I9.1 e3);exact⟨by dsimp only;omega,by dsimp only;omega,by dsimp only;omega,by dsimp only;omega⟩
def aE3(cs ps x6 inner:List UInt8)(z:Nat)(e:List UInt8):(Tw.read cs ps x6 inner z e).1.length<=e.length+1:=by
 unfold Tw.read;split;·simp
 .rw[M0,R6];exact Nat.div_le_self _ _
def readItf_len(e:List UInt8):(Tw.readItf e).1.length<=2*e.length:=by
 unfold Tw.readItf;split;·simp
 split;·simp
 split;·simp
 have:∀(l:List Nat),(l.flatMap λi=>[(Tw.Rp e i).1,(Tw.Rq e i).1]).length=2*l.length:=by
  intro l
  induction l with
  |nil=>rfl
  |cons x l ih=>simp only[M7,S0,B1,I3,ih];omega
 rw[this,R6];have:=Nat.div_le_self (e.length-7) 10;omega
def AS(ws:List Int):(Tw.wide ws).1.length<=ws.length:=by unfold Tw.wide;(repeat' split)<;>simp
def AT(k:Nat)(e:List UInt8):(Tw.Ij k e).1.length<=2*e.length+1:=by
 unfold Tw.Ij;split;·have:=aE3 Tw.c39 Tw.p39 [42] Cd.syms 9 e;omega
 .have:=aE3 Tw.Bb Tw.pCb Tw.Es Tw.Ep 7 e;omega
 .have:=readItf_len e;omega
def AU(k:Nat)(l:List UInt8)(c:Bool):(Tw.Wt k l c).length<=l.length+1:=by
 unfold Tw.Wt;split;·unfold Tw.text39;exact FI
 .unfold Tw.textCb;split;(·rw[S0,J1,X1];omega);·omega
 .unfold Tw.textItf;split;(·rw[J1];omega);·omega
def decK_len(k:Nat)(ws:List Int)(c:Bool):(Tw.decK k ws c).1.length<=2*ws.length+2:=by
 have h1:=AU k (Tw.Ij k (Tw.elems (Tw.wide ws).1)).1 c;have h2:=AT k (Tw.elems (Tw.wide ws).1);have h3:(Tw.elems (Tw.wide ws).1).length=(Tw.wide ws).1.length:=by unfold Tw.elems;simp
 have h4:=AS ws;unfold Tw.decK;split;·simp
 split;·simp
 split;·simp
 split;·simp
 dsimp only;omega
def two_small{k:Int}{row:List Bool}{l:II}(hk:0<=k/\k<=9)(hr:row.length<=65536)(h:Np k row=some l):Small l:=by
 unfold Np at h;split at h;·injection h with h;subst h;refine⟨hk.1,hk.2,?_,by simp⟩;have h1:=(Rn.widths_in row).2;(have h2:∀j,(Tw.decK j (Rn.widths row) false).1.length<=1000000:=λj=>by have:=decK_len j (Rn.widths row) false;omega);dsimp only;unfold Tw.dec;(repeat' split);(·exact h2 _);(·exact h2 _);(·exact h2 _);·simp
 .cases h
def format_len{xs:List Gs.El}{s:List UInt8}(h:Gs.format xs=(s,0)):s.length<=4096:=by
 unfold Gs.format at h;split at h;·exact KG
 .split at h;(·simp at h);·simp only[Y2,W5]at h;subst h;omega
def r128_small{row:List Bool}{l:II}(hr:row.length<=65536)(h:aAl row=some l):Small l:=by
 unfold aAl at h;obtain⟨⟨cs,er⟩,hd⟩:∃r,r=Cc.dec row:=⟨_,rfl⟩;rw[<-hd]at h;unfold aCl at h;dsimp only at h;split at h;·cases h
 rename_i he;obtain rfl:er=0:=I9.1 he;have h1:=(Rn.widths_in row).2;have h2:=(Cc.dec_ge hd.symm).2;split at h;·split at h;(·cases h);split at h;(·cases h);rename_i h3 h4;injection h with h;subst h;obtain⟨⟨s,e3⟩,hf⟩:∃r,r=Gs.format (Gs.frChars cs).1:=⟨_,rfl⟩;rw[<-hf]at h4⊢;obtain rfl:e3=0:=I9.1 h4;have:=format_len hf.symm;refine⟨by dsimp only;omega,by dsimp only;omega,by dsimp only;omega,by simp⟩
 .split at h;(·cases h);injection h with h;subst h;refine⟨by dsimp only;omega,by dsimp only;omega,by dsimp only;rw[M0];omega,by simp⟩
def reader_small{i:Nat}{row:List Bool}{l:II}(hr:row.length<=65536)(h:reader i row=some l):Small l:=by
 unfold reader at h;(repeat' split at h);·unfold aBQ at h;split at h;(·rename_i h1;injection h with h;subst h;exact ean_small h1);·cases h
 .exact r128_small hr h
 .exact two_small C0 hr h
 .exact two_small C0 hr h
 .exact two_small C0 hr h
def aAF:Small zero:=⟨by decide,by decide,by decide,by decide⟩
def found_small{row:List Bool}(hr:row.length<=65536):∀n,Small (found row n).2
 |0=>aAF
 |n+1=>by
  unfold found
  cases h:reader n row with
  |none=>exact found_small hr n
  |some x=>exact reader_small hr h
def decode_small(row:List Bool):Small (decode row).1:=by
 unfold decode;split;·exact aAF
 rename_i h1;split;·exact aAF
 unfold outcome;split;·exact aAF
 split;·exact aAF
 exact found_small C0 5
def try_small{left right s:Int}:∀ {cs:List (List Int)}{l:II},tryGo left right s cs=some l->Small l
 | [],l,h=>by cases h
 |c::cs,l,h=>by unfold tryGo at h;split at h;(·injection h with h;subst h;exact decode_small _);·exact try_small h
def aE4(row:List Bool):Small (read row).1:=by
 unfold read;split
 .exact aAF
 split
 .exact aAF
 cases h:aAZ row with
 |some x=>exact try_small h
 |none=>
  cases h2:aAZ row.reverse with
  |some x=>exact try_small h2
  |none=>exact aAF
def aF4{rows:List (List Bool)}:∀l∈Ap rows,Small l:=by
 intro l hl;unfold Ap at hl;obtain⟨r,-,h⟩:=List.mem_filterMap.1 hl;split at h;·injection h with h;subst h;exact aE4 r
 .cases h
def ordGo(o:List II):List II->List II
 | []=>o
 |x::l=>ordGo (if x∈o then o else o++[x]) l
def ord(l:List II):List II:=ordGo [] l
def aEU(l:List II)(x:II):ord (l++[x])=if x∈ord l then ord l else ord l++[x]:=by
 have h:∀(l o:List II),ordGo o (l++[x])=if x∈ordGo o l then ordGo o l else ordGo o l++[x]:=by
  intro l
  induction l with
  |nil=>intro o;rfl
  |cons y l ih=>intro o;exact ih _
 exact h l []
def aCo(l:List II)(x:II):x∈ord l↔x∈l:=by
 suffices h:∀(l o:List II),x∈ordGo o l↔x∈o\/x∈l by simpa[ord]using h l []
 intro l
 induction l with
 |nil=>intro o;simp[ordGo]
 |cons y l ih=>intro o;rw[ordGo,ih,E2];split;(·rename_i h;constructor;(·rintro(h1|h1);(·exact .inl h1);·exact .inr (.inr h1));·rintro(h1|h1|h1);(·exact .inl h1);(·subst h1;exact .inl h);·exact .inr h1);·rw[E3,D3];constructor;(·rintro((h1|h1)|h1);(·exact .inl h1);(·exact .inr (.inl h1));·exact .inr (.inr h1));·rintro(h1|h1|h1);(·exact .inl (.inl h1));(·exact .inl (.inr h1));·exact .inr h1
def ord_len(l:List II):(ord l).length<=l.length:=by
 suffices h:∀(l o:List II),(ordGo o l).length<=o.length+l.length by simpa[ord]using h l []
 intro l
 induction l with
 |nil=>intro o;simp[ordGo]
 |cons y l ih=>intro o;rw[ordGo,B1];split;(·have:=ih o;omega);·have:=ih (o++[y]);rw[S0,Y9]at this;omega
def best_ord(all:List II):∀(l o:List II)(p q:II×Nat),bestGo all p o=q->(∀x∈o,all.count x<=q.2)->bestGo all p (ordGo o l)=bestGo all q l
 | [],o,p,q,h,_=>h
 |y::l,o,p,q,h,hq=>by
  have Cb:∀(o:List II)(p:II×Nat),bestGo all p (o++[y])=(if(bestGo all p o).2<all.count y then(y,all.count y)else bestGo all p o):=by
   intro o
   induction o with
   |nil=>intro p;rfl
   |cons z o ih=>intro p;exact ih _
  rw[ordGo,bestGo];split;(·rename_i hy;rw[D0 (by have:=hq y hy;omega)];exact best_ord all l o p q h hq);·refine best_ord all l (o++[y]) p _ (by rw[Cb,h]) ?_;intro x hx;rw[E3,D3]at hx;rcases hx with hx|rfl;(·have:=hq x hx;split<;>(try dsimp only)<;>omega);·split<;>(try dsimp only)<;>omega
def aFC(all l:List II):bestGo all (zero,0) (ord l)=bestGo all (zero,0) l:=best_ord all l [] _ _ rfl L0
end Ln
end
section
open Go.RowKit Go.Maps Go Go.WideMaps Go.ChangeMaps Go.ChangeMaps
def sU:KeyLaw prog 33:=deep_law_laid Cc.laid (m:=3) C0 (D4 N0) N0 (by rw[underlying33])
def GO:Keyed prog 33:=Keyed.of_law sU
def Zka{k:Int}{s a:ByteArray}(hk:(Lit.int .i64 k).wf=true)(hs:s.size<=maxLen)(ha:a.size<=maxLen):∃l,keyOf prog 33 (.agg #[.int .i64 k,.string s,.string a])=some l:=by
 unfold keyOf;simp only[underlying33];have h1:prog.keyType 33=true:=D1;have h2:(Value.agg #[.int .i64 k,.string s,.string a]).formed prog 33=true:=D1;obtain⟨d,hd⟩:∃d,prog.types.size+1=d+1+1:=⟨prog.types.size-1,by kernel_rfl⟩;rw[h1,h2,hd];simp only[Bool.and_self,M3];have hc:prog.cellsOf 33=3:=D1;have hi:prog.cellsOf 22=1:=D1;have p9:prog.cellsOf 9=1:=D1;have u1:prog.underlying 22=some (.int .i64):=D1;have u2:prog.underlying 9=some .string:=D1;have k1:prog.keyLits (d+1) 22 [.int .i64 k]=some [.int .i64 k]:=by unfold Program.keyLits;rw[u1];simp[hk]
 have k2:∀s:ByteArray,s.size<=maxLen->prog.keyLits (d+1) 9 [.string s]=some [.string s.data.toList]:=λs hs=>by unfold Program.keyLits;rw[u2];simp[hs]
 have k3:=k2 s hs;have k4:=k2 a ha;have key:∃ls,prog.keyLits (d+1+1) 33 (Value.agg #[.int .i64 k,.string s,.string a]).cells.toList=some ls:=by generalize Mg:d+1=d2 at*;unfold Program.keyLits;simp only[underlying33,Value.cells];rw[G0 ⟨by rw[hc];rfl,by decide+kernel⟩];simp only[XC,List.mapM_nil];simp[hi,p9,k1,k3,k4]
 obtain⟨ls,hls⟩:=key;rw[hls];exact⟨_,rfl⟩
def Zgc{w:World}{b:Nat}{o:Obj}(hb:w.heap[b]? =some o):setBlock w b o=w:=by
 have h:w.heap.setIfInBounds b o=w.heap:=by apply FZ;intro i;by_cases hi:b=i;(·subst hi;rw[Array.getElem?_setIfInBounds_self_of_lt (V3.1 hb).1,hb]);·rw[xN hi]
 unfold setBlock;rw[h]
def Zfv(w:World)(b:Nat)(o o':Obj):setBlock (setBlock w b o) b o'=setBlock w b o':=by unfold setBlock;simp
def Zhq(w:World)(b:Nat)(o:Obj):w.grownBy (setBlock w b o) (some b):=by refine⟨rfl,rfl,rfl,by simp[setBlock],λk hk k7=> ?_⟩;have:b≠k:=λe=>k7 (by rw[e]);simp[setBlock,xN this]
section
variable {P:Program} {w:World} {k e:TypeId} {T:TypeId} {α:Type} {key:α->Value}
def MapV.entry [DecidableEq α]{b n:Nat}{f:α->Option Int}(h:MapV P k key w b n f)(KL:KeyLaw P k)(ht:P.underlying T=some (.map k e))(hz:∀u:World,(zeroValue e).run P u=.ok (.int .i64 0) u){v:α}{l:Lit}(hv:keyOf P k (key v)=some l)(hn:n<maxLen)(aCR:∀a b:α,key a=key b->a=b):
 ∃(st:Nat)(w1:World),(Instr.mapEntry T (.map (some b)) (key v)).run P w=.ok (.tuple #[.int .i64 ((f v).getD 0),goInt st]) w1/\w.grownBy w1 (some b)/\
  (Instr.lookup T (.map (some b)) (key v) false).run P w1=.ok (.int .i64 ((f v).getD 0)) w1/\
  ∀m:Int,∃w3,(Instr.entryStore T (.map (some b)) (goInt st) (.int .i64 m)).run P w1=.ok () w3/\MapV P k key w3 b (n+1) (λx=>if x=v then some m else f x)/\w.grownBy w3 (some b):=by
 have K:Keyed P k:=Keyed.of_law KL
 have Hq:=h.Xr (T:=T) (e:=e) K ht (hz w) hv
 have Yq:=λm=>h.put (T:=T) (e:=e) K ht hv m hn aCR
 obtain⟨D,ho,La⟩:=h
 obtain⟨es,clock,hb,F,o4,hD⟩:=ho
 obtain⟨v0,st,es1,aB2,Cm,_,p9⟩:=WideElems.entry_then_store KL ht hz hb F hv
 obtain⟨c,hc⟩:∃c,c=(f v).getD 0:=⟨_,rfl⟩
 rw[<-hc]at Hq⊢
 have Ce:b<w.heap.size:=(V3.1 hb).1
 have aGw:v0=.int .i64 c/\(Instr.lookup T (.map (some b)) (key v) false).run P (setBlock w b (.map es1 aB2))=.ok (.int .i64 c) (setBlock w b (.map es1 aB2)):=by rcases K.find w hv es.toList F.keys with⟨h1,h2⟩|⟨j,e0,h1,h2,h3⟩;(·have hr:(Instr.mapEntry T (.map (some b)) (key v)).run P w=.ok (.tuple #[.int .i64 0,goInt clock]) (setBlock w b (.map (es.push ⟨key v,.int .i64 0,clock⟩) (clock+1))):=(by simp[Instr.mapEntry,X6 ht,OS hb,K.check w false hv,h1,hz,yZ _ hb,Result.andThen,setBlock]);have hu:(Instr.mapUpdate T (.map (some b)) (key v) (.int .i64 0)).run P w=.ok () (setBlock w b (.map (es.push ⟨key v,.int .i64 0,clock⟩) (clock+1))):=(by simp[Instr.mapUpdate,X6 ht,OS hb,K.check w false hv,h1,yZ _ hb,Result.andThen,setBlock]);have hl:(Instr.lookup T (.map (some b)) (key v) false).run P w=.ok (.int .i64 0) w:=(by simp[Instr.lookup,X6 ht,OS hb,K.check w es.isEmpty hv,h1,hz,Result.andThen]);rw[hl]at Hq;injection Hq with Hq;injection Hq with _ Bc;rw[hr]at Cm;injection Cm with IZ Aa;injection IZ with IZ;obtain⟨w',Jd,Oh,_⟩:=Yq 0;rw[hu]at Jd;injection Jd with _ Jd;rw[<-Aa];subst Jd;have hg:=Oh.Xr (T:=T) (e:=e) K ht (hz _) hv;(try dsimp only at hg);rw[G0 rfl]at hg;refine⟨?_,by rw[hg,<-Bc];rfl⟩;have:=V0 (λl:Array Value=>l[0]?) IZ;simp at this;rw[<-this,Bc]);·have hj:es[j]? =some e0:=B9;have hs:es.modify j (λe=> {e with key:=key v})=es:=(by apply FZ;intro i;rw[RW];split;(·rename_i Sp;subst Sp;rw[hj,YS,<-h3]);·rfl);have hr:(Instr.mapEntry T (.map (some b)) (key v)).run P w=.ok (.tuple #[e0.val,goInt e0.born]) (setBlock w b (.map es clock)):=(by simp[Instr.mapEntry,X6 ht,OS hb,K.check w false hv,h1,hj,h3,K.stays w hv,hs,yZ _ hb,Result.andThen,setBlock]);have hl:(Instr.lookup T (.map (some b)) (key v) false).run P w=.ok e0.val w:=(by simp[Instr.lookup,X6 ht,OS hb,K.check w es.isEmpty hv,h1,Result.andThen]);rw[hl]at Hq;injection Hq with Hq;rw[hr]at Cm;injection Cm with IZ Aa;injection IZ with IZ;have hw:setBlock w b (.map es clock)=w:=Zgc hb;rw[<-Aa,hw];refine⟨?_,by rw[hl,Hq]⟩;have:=V0 (λl:Array Value=>l[0]?) IZ;simp at this;rw[<-this,Hq]
 obtain⟨Jw,Fu⟩:=aGw
 subst Jw
 refine⟨st,_,Cm,?_,Fu,λm=> ?_⟩
 .exact Zhq w b _
 .obtain⟨es',aDU,h1,h2⟩:=p9 (setBlock w b (.map es1 aB2)) (.int .i64 m) (heap_setBlock_same hb _);obtain⟨w',Jd,Oh,hp3⟩:=Yq m;rw[h2]at Jd;injection Jd with _ Jd;have hss:setBlock (setBlock w b (.map es1 aB2)) b (.map es' aDU)=setBlock w b (.map es' aDU):=Zfv w b _ _;rw[hss]at h1;subst Jd;exact⟨_,h1,Oh,hp3⟩
end
end
section
open Go.RowKit Go.Maps
abbrev Li:=Ln.II
def lnV(x:Li):Value:=.agg #[.int .i64 x.1,.string (Ea.bS x.2.1),.string (Ea.bS x.2.2)]
def Znf:∀a b:Li,lnV a=lnV b->a=b:=by rintro⟨k,s,a⟩ ⟨j,t,b⟩ h;unfold lnV at h;simp only[Value.agg.injEq,Array.mk.injEq,RZ,Value.int.injEq,Value.string.injEq,true_and,W5]at h;obtain⟨rfl,h2,h3⟩:=h;rw[Ea.aAv.1 h2,Ea.aAv.1 h3]
def ZnS{n:Int}(h1: -9223372036854775808<=n)(h2:n<=9223372036854775807):(Lit.int .i64 n).wf=true:=by show(decide (_<=n)&&decide (n<=_))=true;rw[C1 (show IntKind.min .i64<=n from h1),C1 (show n<=IntKind.max .i64 from h2)];rfl
def sV{x:Li}(h:Ln.Small x):∃l,keyOf prog 33 (lnV x)=some l:=
 Zka (ZnS (by have:=h.1;omega) (by have:=h.2.1;omega)) (by rw[Zd (Ea.Bw _)];have:=h.2.2.1;unfold maxLen;omega) (by rw[Zd (Ea.Bw _)];have:=h.2.2.2;unfold maxLen;omega)
def liC(xs:List Li):List Value:=xs.flatMap λx=>[.int .i64 x.1,.string (Ea.bS x.2.1),.string (Ea.bS x.2.2)]
def Zl2(xs:List Li)(x:Li):liC (xs++[x])=liC xs++[.int .i64 x.1,.string (Ea.bS x.2.1),.string (Ea.bS x.2.2)]:=by simp[liC]
def ZnW(xs:List Li):∀(i:Nat)(x:Li),xs[i]? =some x->(liC xs)[i*3]? =some (.int .i64 x.1)/\(liC xs)[i*3+1]? =some (.string (Ea.bS x.2.1))/\(liC xs)[i*3+2]? =some (.string (Ea.bS x.2.2)):=by
 induction xs with
 |nil=>intro i x h;simp at h
 |cons y ys ih=>
  intro i x h
  cases i with
  |zero=>simp only[List.getElem?_cons_zero,P2]at h;subst h;exact⟨rfl,rfl,rfl⟩
  |succ i=>rw[List.getElem?_cons_succ]at h;have:=ih i x h;have e1:(i+1)*3=i*3+1+1+1:=C0;rw[e1];simp only[liC,M7,C3,G4,List.getElem?_cons_succ]at this⊢;exact L3
def LOwn(w:World)(B:Nat)(v:Value)(xs:List Li):Prop:=w.ownsRow B 33 3 v xs.length (liC xs)
section
variable {w w':World} {B:Nat} {v:Value} {xs:List Li}
def LOwn.nil(w:World)(B:Nat):LOwn w B (.slice none 0 0) []:=RB _ _ _ _
def LOwn.ext(h:LOwn w B v xs)(hx:Ext w w'):LOwn w' B v xs:=by
 refine YQ h hx.Hl ?_;cases hv:v.ownBlock with
 |none=>exact .inl rfl
 |some k=>exact .inr L0
def LOwn.low(h:LOwn w B v xs):∀k,v.ownBlock=some k->B<=k:=λk hk=>(R4 h k hk).1
def MapV.Rm{P:Program}{k:TypeId}{α:Type}{key:α->Value}{w:World}{b n:Nat}{f:α->Option Int}(h:MapV P k key w b n f):∃es c,w.heap[b]? =some (.map es c):=by obtain⟨D,ho,-⟩:=h;obtain⟨es,clock,hb,-⟩:=ho;exact⟨es,clock,hb⟩
def LOwn.apart{P:Program}{k:TypeId}{α:Type}{key:α->Value}{b n:Nat}{f:α->Option Int}(h:LOwn w B v xs)(hm:MapV P k key w b n f):v.ownBlock≠some b:=by
 obtain⟨es,c,hb⟩:=hm.Rm;rcases h.2 with⟨h1,_⟩|⟨g,cap,cur,h1,_,hg,_⟩;·rw[h1];simp[Value.ownBlock]
 .rw[h1];intro e;simp only[Value.ownBlock,P2]at e;subst e;rw[hg]at hb;cases hb
def LOwn.kept{row:Option Nat}(h:LOwn w B v xs)(hg:w.grownBy w' row)(k7:v.ownBlock=none\/v.ownBlock≠row):LOwn w' B v xs:=YQ h hg k7
def LOwn.form(h:LOwn w B v xs):(xs=[]/\v=.slice none 0 0)\/∃g c,v=.slice (some ⟨g,0,none⟩) xs.length c/\g<w.heap.size/\∀(i:Nat)(x:Li),xs[i]? =some x->w.cell? ⟨g,i*3,none⟩=some (.int .i64 x.1)/\w.cell? ⟨g,i*3+1,none⟩=some (.string (Ea.bS x.2.1))/\w.cell? ⟨g,i*3+2,none⟩=some (.string (Ea.bS x.2.2)):=by
 have hc:=h;rcases h.2 with⟨h1,h0⟩|⟨g,cap,cur,hv,Ki,hb,h1,h2,h3,h4⟩;·exact .inl ⟨U3 h0,h1⟩
 .refine .inr ⟨g,cap,hv,(V3.1 hb).1,λi x hi=> ?_⟩;unfold LOwn at hc;rw[hv]at hc;have Ev:=(N1.1 hi).1;rw[hc.cellAt (i*3) C0,hc.cellAt (i*3+1) C0,hc.cellAt (i*3+2) C0];exact ZnW xs i x hi
end
def Zlx:(prog.info? 33).map (λi=>(i.zero,i.size,i.bytes))=some (some (.agg #[.int .i64 0,.string ⟨#[]⟩,.string ⟨#[]⟩]),3,40):=D1
def Zir{w:World}{ops:Array Oper}{rest:List Oper}{o:Oper}{a:Act}{Q:Exit->Act->World->Prop}(IG:o.guard=none)(s x:Operand)
 (ho:o.op=.call {callee:=.builtin .append,args:= #[s,x],argTypes:= #[113,113]})
 (B:Nat)(v:Value)(xs:List Li)(hs:a.eval s=v)(b8:LOwn w B v xs)(b:Nat)(u:Li)(hx:a.eval x=.slice (some ⟨b,0,none⟩) 1 1)
 (hc:w.cell? ⟨b,0,none⟩=some (.int .i64 u.1))(Am:w.cell? ⟨b,1,none⟩=some (.string (Ea.bS u.2.1)))(IS:w.cell? ⟨b,2,none⟩=some (.string (Ea.bS u.2.2)))(hn:xs.length<=999999999)(hB:B<=w.heap.size)
 (h:∀v' w',LOwn w' B v' (xs++[u])->w.grownBy w' v.ownBlock->wpList prog ops Q rest (a.put o.dst v') w'):wpList prog ops Q (o::rest) a w:=by
 obtain⟨i0,hi,An,p8,x9⟩:=C5 Zlx;refine RD _ IG s x 113 ho B 33 i0 _ 3 40 underlying113 hi An p8 x9 rfl I0 v xs.length (liC xs) hs b8 ⟨b,0,none⟩ 1 1 [.int .i64 u.1,.string (Ea.bS u.2.1),.string (Ea.bS u.2.2)] hx rfl ?_ ?_ ?_ ?_ hB ?_
 .intro j u' hj
  rw[UD]
  match j with
  |0=>simp only[List.getElem?_cons_zero,P2]at hj;subst hj;exact hc
  |1=>simp only[List.getElem?_cons_succ,List.getElem?_cons_zero,P2]at hj;subst hj;exact Am
  |2=>simp only[List.getElem?_cons_succ,List.getElem?_cons_zero,P2]at hj;subst hj;exact IS
  |j+3=>simp at hj
 .intro u' hu;simp only[E2,J4,F4]at hu;rcases hu with rfl|rfl|rfl<;>rfl
 .exact B8
 .exact F3 (FR 40 (show xs.length+1<=1000000000 by omega)) I0
 .intro v' w' h1 h2 _;refine h v' w' ?_ h2;unfold LOwn;rw[S0,Zl2];exact h1
def SP(w:World)(v:Value)(rows:List (List Bool)):Prop:=∃xs:List Value,SlK w v xs/\xs.length=rows.length/\∀(i:Nat)(x:Value)(r:List Bool),xs[i]? =some x->rows[i]? =some r->SlK w x (r.map encT)
def SP.form{w:World}{v:Value}{rows:List (List Bool)}(h:SP w v rows):∃a c,v=.slice a rows.length c:=by obtain⟨xs,⟨-,a,c,h1,-⟩,h2,-⟩:=h;exact⟨a,c,by rw[h1,h2]⟩
def SP.at_{w w':World}{a:Option Addr}{n c:Nat}{rows:List (List Bool)}(h:SP w (.slice a n c) rows)(hx:Ext w w'){i:Nat}{r:List Bool}(hi:rows[i]? =some r):
 ∃b o x y z,a=some ⟨b,o,none⟩/\b<w.heap.size/\w'.cell? ⟨b,o+i,none⟩=some (.slice x y z)/\SlK w' (.slice x y z) (r.map encT):=by
 obtain⟨xs,⟨h1,-⟩,h2,h3⟩:=h;have Ev:=(N1.1 hi).1;obtain⟨b,o,ha,hb,hc⟩:=h1.at_ (k:=i) C0;have h4:=h3 i (xs[i]' C0) r (P0 _) hi;obtain⟨h5,x,z,h6,h7⟩:=h4;refine⟨b,o,x,_,z,ha,hb,?_,h6▸(SlK.ext ⟨h5,x,z,h6,h7⟩ hx)⟩;rw[hx.cell (p:=⟨b,o+i,none⟩) hb,hc,h6]
end
section
open Go.RowKit
def sW(w:World)(k j:Int)(a b c d:ByteArray):(binOp .eql 33 (.agg #[.int .i64 k,.string a,.string b]) (.agg #[.int .i64 j,.string c,.string d])).run prog w=.ok (.bool (k==j&&(a.toList==c.toList&&b.toList==d.toList))) w:=by
 have u9:=underlying9;have a9:=Tryz.isAgg9;have z9:=Tryz.sizeOf9;have u8:=underlying22;have a8:=Tryz.isAgg22;have z8:=Tryz.sizeOf22;have hS:prog.underlying 33=some (.struct (prog.fieldsOf 33)):=D1;have hp:prog.stoodInHeld 33=false:=D1;rw[run_eql_struct,show(10000:Nat)=9999+1 from rfl,run_equalIn_agg w 9999 33 _ _ hS hp];simp only[Program.fieldsOf,underlying33];go_simp;by_cases h0:k=j<;>by_cases h1:a.toList=c.toList<;>by_cases h2:b.toList=d.toList<;>simp[h0,h1,h2]
end
end Go.Proofs.Enc
section
namespace Go.Proofs.Enc
open Go.Proofs.Tryz
end Go.Proofs.Enc
namespace Go.Proofs.Enc
open Go.Proofs.Tryz
open Go.RowKit
def vA{fn:Func}{p u z:Tmp}(h:fn.results= #[.cell p 33,.tmp u,.tmp z]){tmps:Array Value}{w:World}{g:Nat}{t:TypeId}{x y q e f:Value}
 (hp:tmps.getD p undef=.pointer (some ⟨g,0,none⟩))(hg:w.heap[g]? =some (.cells #[x,y,q] t (0,0)))(he:tmps.getD u undef=e)(hf:tmps.getD z undef=f):
 (results fn tmps).run prog w=.ok (.tuple #[.agg #[x,y,q],e,f]) w:=by
 have h1:(results fn tmps).run prog w=((asAddr (tmps.getD p undef)).run prog w).andThen λa w₁=>((loadVar 33 a).run prog w₁).andThen λv w₂=>.ok (.tuple #[v,tmps.getD u undef,tmps.getD z undef]) w₂:=by simp only[results,h];simp[UF,Result.andThen]
 rw[h1,hp,he,hf];simp only[asAddr,UG,UH];rw[BY w g t _ #[x,y,q] (0,0) _ hg underlying33 rfl N0];rfl
end Go.Proofs.Enc
end
namespace Go.Proofs.Enc
open Go.Proofs.Tryz
section
open Go.RowKit Go.Maps
def sX(r:Li×Int×Int):Value:=.tuple #[lnV r.1,.int .i64 r.2.1,.int .i64 r.2.2]
namespace Ln
def cnt(l:List II):II->Option Int:=λx=>if x∈l then some (l.count x:Int)else none
def aCC(l:List II)(x:II):(cnt l x).getD 0=(l.count x:Int):=by
 unfold cnt;split;·rfl
 .rename_i h;rw[vB h];rfl
def aFL:cnt []=λ_=>none:=by funext x;simp[cnt]
def cnt_snoc(l:List II)(x:II){m:Int}(hm:m=(l.count x:Int)+1):(λy=>if y=x then some m else cnt l y)=cnt (l++[x]):=by
 funext y;unfold cnt;simp only[List.count_append,E3,D3];by_cases h:y=x;·subst h;rw[G0 rfl,G0 (.inr rfl),hm];simp
 .rw[D0 h];have:List.count y [x]=0:=vB Y4;rw[this];by_cases h2:y∈l;(·rw[G0 h2,G0 (.inl h2)];rfl);·rw[D0 h2,D0 (by rintro(h3|h3);exact h2 h3;exact h h3)]
def aF5(rows:List (List Bool)){i:Nat}{r:List Bool}(h:rows[i]? =some r):Ap (rows.take (i+1))=Ap (rows.take i)++(if(read r).2=0 then [(read r).1]else []):=by unfold Ap;rw[M5,h,List.filterMap_append];congr 1;simp only[Option.toList,List.filterMap_cons,List.filterMap_nil];split<;>simp_all
def aFD(all:List II)(l:List II)(p:II×Nat)(x:II):bestGo all p (l++[x])=(if(bestGo all p l).2<all.count x then(x,all.count x)else bestGo all p l):=by
 induction l generalizing p with
 |nil=>rfl
 |cons z l ih=>exact ih _
def best_head(all:List II){x:II}{l:List II}(h:x∈all):bestGo all (x,all.count x) (x::l)=bestGo all (zero,0) (x::l):=by have:=vC.2 h;rw[bestGo,bestGo,D0 P3,G0 P3]
end Ln
def OT(w:World):(zeroValue 3).run prog w=.ok (.int .i64 0) w:=D1
def sY{W:World}{mb c0:Nat}{G:List Li}{x:Li}{kl:Lit}(h:MapV prog 33 lnV W mb c0 (Ln.cnt G))(hk:keyOf prog 33 (lnV x)=some kl)(hc:c0<=1000000):
 ∃(st:Nat)(w1 w3:World),(Instr.mapEntry 112 (.map (some mb)) (lnV x)).run prog W.drew=.ok (.tuple #[.int .i64 (G.count x:Int),.int .i64 (st:Int)]) w1/\
  (Instr.lookup 112 (.map (some mb)) (lnV x) false).run prog W=.ok (.int .i64 (G.count x:Int)) W/\
  (Instr.lookup 112 (.map (some mb)) (lnV x) false).run prog W.drew=.ok (.int .i64 (G.count x:Int)) W.drew/\
  (Instr.lookup 112 (.map (some mb)) (lnV x) false).run prog w1=.ok (.int .i64 (G.count x:Int)) w1/\
  (Instr.entryStore 112 (.map (some mb)) (.int .i64 (st:Int)) (.int .i64 ((G.count x:Int)+1))).run prog w1=.ok () w3/\
  MapV prog 33 lnV w3 mb (c0+1) (Ln.cnt (G++[x]))/\W.grownBy w3 (some mb):=by
 have h2:MapV prog 33 lnV W.drew mb c0 (Ln.cnt G):=h
 obtain⟨st,w1,e1,e2,e3,e4⟩:=h2.entry (T:=112) sU underlying112 OT hk O3 Znf
 obtain⟨w3,e5,e6,e7⟩:=e4 ((G.count x:Int)+1)
 have e8:=h.Xr (T:=112) GO underlying112 (OT W) hk
 have e9:=h2.Xr (T:=112) GO underlying112 (OT _) hk
 rw[Ln.aCC]at e1 e3 e8 e9
 refine⟨st,w1,w3,e1,e8,e9,e3,e5,?_,?_⟩
 .rw[<-Ln.cnt_snoc G x rfl];exact e6
 .exact⟨e7.os,e7.tape,e7.output,e7.size,e7.block⟩
def VS(wz:World)(rows:List (List Bool))(v6:Value)(i:Nat)(wr:World):Prop:=
 LOwn wr (wz.heap.size+1) v6 (Ln.ord (Ln.Ap (rows.take i)))/\(∃n,n<=i/\MapV prog 33 lnV wr wz.heap.size n (Ln.cnt (Ln.Ap (rows.take i))))/\Ext wz wr
def ZnB(v:Value)(rows:List (List Bool))(w:World)(hv:SP w v rows)(hr:rows.length<=1000000)(hm:∀r∈rows,r.length<=1000000)(ht:ZQ w):
 Calls prog 26 #[v] w λe w'=>e=.returned (sX (Ln.vote rows))/\Ext w w':=by
 have HT:=B0 ht;have HV:=B0 hv;have HM:=B0 hm;have HD:=B0 (Ln.vote.eq_1 rows);generalize Ln.vote rows=res at*;obtain⟨a,c,rfl⟩:=hv.form;obtain⟨n,hn⟩:∃n,n=rows.length:=⟨_,rfl⟩;rw[<-hn]at HV HD hr⊢;have HN:=B0 hn;clear hv hm hn ht;by_cases h4:4096<n
 .have h4I:4096<(n:Int):=C0;rw[G0 h4]at HD;clear h4;go_enter func26,ntmps26;go_wp2_with fail;refine J2 (vA results26 rfl (X2 w _) rfl rfl) rfl ?_;rw[HD.out];exact A7
 have h4I:¬4096<(n:Int):=by omega
 rw[D0 h4]at HD;have Ha:n<=4096:=by omega
 clear h4;obtain⟨wz,hwz⟩:∃wz,wz=w.alloc (.cells #[.int .i64 0,.string ⟨#[]⟩,.string ⟨#[]⟩] 33):=⟨_,rfl⟩;have HXZ:Hid (Ext w wz):=B0 (by rw[hwz];exact(Ext.refl w).alloc _);have HZ:=B0 hwz;have Ww:Hid (wz.heap[w.heap.size]? =some (.cells #[.int .i64 0,.string ⟨#[]⟩,.string ⟨#[]⟩] 33 (0,0))):=B0 (by rw[hwz];exact X2 _ _);have Mr:wz.heap.size=w.heap.size+1:=by rw[hwz];simp
 have HZS:=B0 Mr;clear hwz Mr;have Bm:= @MN prog;have aAf:=MapV.made (P:=prog) (k:=33) (key:=lnV) wz;have HV0:Hid (VS wz rows (.slice none 0 0) 0 (wz.alloc (.map #[] 0))):=B0 ⟨LOwn.nil _ _,⟨0,J0 _,by rw[YP];show MapV _ _ _ _ _ _ (Ln.cnt []);rw[Ln.aFL];exact aAf⟩,(Ext.refl wz).alloc _⟩;clear aAf;go_enter func26,ntmps26;go_wp2_with fail;rw[<-HZ.out,<-HZS.out];go_loopw [6,21] (λu t wr=>∃i:Nat,i<=n/\t=.int .i64 (i:Int)/\Hid (VS wz rows u i wr)) (λ_ t _=>n-(intOf t).toNat)
 case atStart=>exact⟨0,R0 _,rfl,HV0⟩
 case round=>
 clear HV0 Bm;obtain⟨i,hi,rfl,HS⟩:=hrel;by_cases hlt:i<n
 .have Kl:(i:Int)<(n:Int):=C0;obtain⟨r,hri⟩:∃r,rows[i]? =some r:=⟨_,P0 X3⟩;obtain⟨Df,⟨c0,Bc,Jr⟩,j3⟩:=HS.out;obtain⟨b,o,x,y,z,ha,-,hc,j8⟩:=HV.out.at_ (HXZ.out.trans j3) hri;subst ha;have Dq:=B0 (yY _ r wr j8 (HM.out r (L1 hri)) (Z4 HT.out (HXZ.out.trans j3)));have Rc:=B0 (Ln.aF5 rows hri);have Yt:=Ln.aE4 r;obtain⟨⟨l,er⟩,hrd⟩:∃x,x=Ln.read r:=⟨_,rfl⟩;rw[<-hrd]at Dq Rc Yt;dsimp only at Rc Yt;clear hrd hri j8 HS;obtain⟨k,s,ad⟩:=l;unfold gotV linV at Dq;dsimp only at Dq;obtain⟨G,hG⟩:∃G,G=Ln.Ap (rows.take i):=⟨_,rfl⟩;rw[<-hG]at Df Jr Rc;by_cases he:er=0;(·subst he;rw[G0 rfl]at Rc;obtain⟨kl,Jo⟩:=sV Yt;have De:(G.length:Int)<=5000:=(by rw[hG];have:=Ln.aD2 (rows.take i);exact EE);have x8:=GP (a:=(k,s,ad)) (l:=G);obtain⟨C,hC⟩:∃C,C=G.count (k,s,ad):=⟨_,rfl⟩;by_cases hx:(k,s,ad)∈G;(·have hC1:=vC.2 hx;have hor:Ln.ord (G++[(k,s,ad)])=Ln.ord G:=(by rw[Ln.aEU,G0 ((Ln.aCo _ _).2 hx)]);rw[<-hC]at hC1 x8;have hz:((C:Int)==0)=false:=O0.2 C0;have aAs:Hid (∀w' w3,Ext wr w'->w'.grownBy w3 (some wz.heap.size)->(∃n,n<=i+1/\MapV prog 33 lnV w3 wz.heap.size n (Ln.cnt (G++[(k,s,ad)])))->VS wz rows u6 (i+1) w3):=B0 (λw' w3 h hg Bm=>by refine⟨?_,?_,(j3.trans h).l8 hg (λq hq=>by injection hq with hq;omega)⟩;(·rw[Rc.out,hor];exact(Df.ext h).kept hg (.inr (Df.apart Jr)));·rw[Rc.out];exact Bm);clear hor hx;go_wp2_with fail;refine Dq.out.mono ?_;rintro e w2 ⟨rfl,j0⟩;have Dj:=j0.alloc (.cells #[.int .i64 k,.string (Ea.bS s),.string (Ea.bS ad)] 33);obtain⟨st,w3,w4,f1,f2,f3,f4,f5,f6,f7⟩:=sY (Jr.kept Dj.Hl L0) Jo C0;unfold lnV at f1 f2 f3 f4;dsimp only at f1 f2 f3 f4;rw[<-hC]at f1 f2 f3 f4 f5;have HS3:=B0 (aAs.out _ _ Dj f7 ⟨_,by omega,f6⟩);clear aAs f6 f7 Jr Df Dj Jo hC;go_wp2_with fail;go_region;exact vD);·have hC0:=vB hx;have hor:Ln.ord (G++[(k,s,ad)])=Ln.ord G++[(k,s,ad)]:=(by rw[Ln.aEU,D0 (λh=>hx ((Ln.aCo _ _).1 h))]);have Nj:=Ln.ord_len G;rw[<-hC]at hC0;subst hC0;have HC:=B0 hC;clear hC x8 hG;have aAs:Hid (∀v' w' y8 w3,Ext wr w'->LOwn y8 (wz.heap.size+1) v' (Ln.ord G++[(k,s,ad)])->Ext wz y8->y8.grownBy w3 (some wz.heap.size)->(∃kk c,y8.heap[wz.heap.size]? =some (.map kk c))->(∃n,n<=i+1/\MapV prog 33 lnV w3 wz.heap.size n (Ln.cnt (G++[(k,s,ad)])))->VS wz rows v' (i+1) w3):=B0 (λv' w' y8 w3 h ho Bo hg hk Bm=>by refine⟨?_,?_,Bo.l8 hg (λq hq=>by injection hq with hq;omega)⟩;(·rw[Rc.out,hor];refine ho.kept hg ?_;rcases ho.2 with⟨h1,_⟩|⟨g,cap,cur,h1,_,Cw,_⟩;(·exact .inl RL);·refine .inr (λe=> ?_);rw[h1]at e;simp only[Value.ownBlock,P2]at e;subst e;obtain⟨kk,cc,hk⟩:=hk;rw[Cw]at hk;cases hk);·rw[Rc.out];exact Bm);clear hor hx;go_wp2_with fail;refine Dq.out.mono ?_;rintro e w2 ⟨rfl,j0⟩;have Dj:=j0.alloc (.cells #[.int .i64 k,.string (Ea.bS s),.string (Ea.bS ad)] 33);have aDy:=Jr.kept Dj.Hl L0;have g1:=aDy.Xr (T:=112) GO underlying112 (OT _) Jo;rw[Ln.aCC,<-HC.out]at g1;have Lh:=Dj.alloc (.cells #[.int .i64 k,.string (Ea.bS s),.string (Ea.bS ad)] 33);have aBf:=Df.ext Lh;have aC0:=Jr.kept Lh.Hl L0;have aJQ:=Jr.lt;unfold lnV at g1;dsimp only at g1;clear Jr aDy;go_wp2_with (at_builtin;refine Zir rfl _ _ rfl (wz.heap.size+1) _ _ rfl aBf _ (k,s,ad) rfl ?c1 ?c2 ?c3 ?c4 ?c5 ?_);(case c4=>omega);(case c5=>have:=Lh.size;omega);intro v3 w3 aEC Vu;have aCZ:=aC0.kept Vu (aBf.apart aC0);obtain⟨st,w4,w5,f1,f2,f3,f4,f5,f6,f7⟩:=sY aCZ Jo C0;have aDh:w3.heap[w2.heap.size]? =some (.cells #[.int .i64 k,.string (Ea.bS s),.string (Ea.bS ad)] 33 (0,0)):=(by rw[Vu.block w2.heap.size J3 (λe=>by have h1:=(R4 Df _ e.symm).2;have h2:=j0.size;omega)];exact Zf (X2 w2 _) ((Ext.refl _).alloc _));obtain⟨q0,q1,q2,q3,q4,q5,q6,q7⟩:=Zk aDh;unfold lnV at f1 f2 f3 f4;dsimp only at f1 f2 f3 f4;rw[<-HC.out]at f1 f2 f3 f4 f5;rw[show((0:Nat):Int)+1=1 from rfl]at f5;have HS3:=B0 (aAs.out v3 _ w3 w5 Lh aEC ((j3.trans Lh).l8 Vu (λq hq=>by have:=aBf.low q hq;omega)) f7 aCZ.Rm ⟨_,by omega,f6⟩);clear aAs aCZ aC0 aBf Df f6 f7 Jo aDh q7 Vu aEC;go_wp2_with fail;go_region;exact vD);·have hb:(er !=0)=true:=R1.2 he;rw[D0 he,A3]at Rc;clear he;have Dc:∀w',Ext wr w'->Hid (VS wz rows u6 (i+1) w'):=λw' h=>B0 ⟨by rw[Rc.out];exact Df.ext h,⟨c0,by omega,by rw[Rc.out];exact Jr.kept h.Hl L0⟩,j3.trans h⟩;clear Df Jr hG;go_wp2_with fail;refine Dq.out.mono ?_;rintro e w2 ⟨rfl,j0⟩;have HS3:=Dc _ (j0.alloc (.cells #[.int .i64 k,.string (Ea.bS s),.string (Ea.bS ad)] 33));clear Dc;exact vD
 obtain rfl:n=i:=by omega
 obtain⟨Df,⟨c0,Bc,Jr⟩,j3⟩:=HS.out;rw[S1 P7]at Df Jr;obtain⟨G,hG⟩:∃G,G=Ln.Ap rows:=⟨_,rfl⟩;have Yt:∀l∈G,Ln.Small l:=by rw[hG];exact Ln.aF4
 have De:G.length<=5000:=by rw[hG];have:=Ln.aD2 rows;rw[<-HN.out]at this;omega
 rw[<-hG]at Df Jr HD;rw[<-Ln.aFC G G]at HD;have Jp:=Ln.aCo G;have Nj:=Ln.ord_len G;obtain⟨L,hL⟩:∃L,L=Ln.ord G:=⟨_,rfl⟩;rw[<-hL]at Df HD Jp Nj;have HBR:=B0 (Zf Ww.out j3);have HXR:=B0 (HXZ.out.trans j3);obtain⟨f0,f1,f2,f3,f4,f5,f6,f7⟩:=Zk HBR.out;clear hi hlt HS hG hL;have key:L=[]->Hid (res=(Ln.zero,0,29)):=by rintro rfl;exact B0 HD.out
 rcases Df.form with⟨By,rfl⟩|⟨g,cg,rfl,hg,aAR⟩
 .have HF:=key By;clear HD key Df Jr Jp Nj;exact sZ
 obtain⟨N,hN⟩:∃N,N=L.length:=⟨_,rfl⟩;rw[<-hN]at Nj⊢;by_cases h0:N=0
 .have HF:=key (U3 (hN▸h0));subst h0;clear HD key Df Jr Jp Nj hN;exact sZ
 have Mn:(0:Int)<(N:Int):=by omega
 have hz:((N:Int)==0)=false:=O0.2 C0;obtain⟨x0,n9⟩:∃x,L[0]? =some x:=⟨_,P0 C0⟩;have aCh:x0∈G:=(Jp _).1 (L1 n9);obtain⟨L',hL'⟩:∃L',L=x0::L':=by
  cases L with
  |nil=>simp at n9
  |cons y L'=>simp only[List.getElem?_cons_zero,P2]at n9;exact⟨L',by rw[n9]⟩
 have Ka:Hid (Ln.bestGo G (x0,G.count x0) L=Ln.bestGo G (Ln.zero,0) L):=B0 (by rw[hL'];exact Ln.best_head G aCh);obtain⟨d0,d1,d2⟩:=aAR 0 x0 n9;rw[Nat.zero_mul]at d0 d1 d2;rw[Nat.zero_add]at d1 d2;have HCE:=B0 aAR;have HMP:=B0 Jr;have Ow:=B0 Yt;have HME:=B0 Jp;have Db:=B0 hN;have Cj:=B0 aCh;clear aAR Jr Yt Jp hN n9 hL' key Df h0 aCh j3;obtain⟨xk,xs,xa⟩:=x0;dsimp only at d0 d1 d2;go_wp2_with fail;have HLK:Hid (∀(W:World)(l:Li),l∈G->GB (some w.heap.size) wr W->(Instr.lookup 112 (.map (some wz.heap.size)) (lnV l) false).run prog W=.ok (.int .i64 (G.count l:Int)) W):=B0 (λW l hl hx=>by obtain⟨kl,hk⟩:=sV (Ow.out l hl);have:=(HMP.out.kept hx (λe=>by injection e with e;have:=HZS.out;omega)).Xr (T:=112) GO underlying112 (OT W) hk;rw[Ln.aCC]at this;exact this);have Dk:Hid ((wr.alloc (.cells #[.int .i64 xk,.string (Ea.bS xs),.string (Ea.bS xa)] 33)).heap[wr.heap.size]? =some (.cells #[.int .i64 xk,.string (Ea.bS xs),.string (Ea.bS xa)] 33 (0,0))):=B0 (X2 _ _);clear d0 d1 d2 f1 f2 f3 f4 f5 f6 f7 hz Mn;go_loopw [56] (λt wq=>∃(j:Nat)(y:Li),j<=N/\t=.int .i64 (j:Int)/\Hid (y∈G)/\Hid (Ln.bestGo G ((xk,xs,xa),G.count (xk,xs,xa)) (L.take j)=(y,G.count y))/\Hid (wq.heap[wr.heap.size]? =some (.cells #[.int .i64 y.1,.string (Ea.bS y.2.1),.string (Ea.bS y.2.2)] 33 (0,0)))/\Hid (Ext wr wq)) (λt _=>N-(intOf t).toNat)
 case atStart=>exact⟨0,(xk,xs,xa),R0 _,rfl,Cj,B0 rfl,Dk,B0 ((Ext.refl wr).alloc _)⟩
 case round=>
 clear Dk Cj;obtain⟨j,y,hj,rfl,HY,HBG,HB,HX⟩:=hrel;obtain⟨yk,ys,ya⟩:=y;dsimp only at HB;obtain⟨q0,q1,q2,q3,q4,q5,q6,q7⟩:=Zk HB.out;by_cases hlt:j<N
 .have Bx:(j:Int)<(N:Int):=C0;obtain⟨z,hzj⟩:∃z,L[j]? =some z:=⟨_,P0 (by rw[<-Db.out];exact hlt)⟩;have hzm:=(HME.out z).1 (L1 hzj);obtain⟨e0,e1,e2⟩:=HCE.out j z hzj;have Ww:=B0 (Ln.aFD G (L.take j) ((xk,xs,xa),G.count (xk,xs,xa)) z);have Fp:Hid (L.take (j+1)=L.take j++[z]):=B0 (by rw[M5,hzj];rfl);have HZM:=B0 hzm;obtain⟨zk,zs,za⟩:=z;dsimp only at e0 e1 e2;have Cw:=hg;have e0:=(HX.out.cell (p:=⟨g,j*3,none⟩) Cw).trans e0;have e1:=(HX.out.cell (p:=⟨g,j*3+1,none⟩) Cw).trans e1;have e2:=(HX.out.cell (p:=⟨g,j*3+2,none⟩) Cw).trans e2;have Dj:=HX.out.alloc (.cells #[.int .i64 zk,.string (Ea.bS zs),.string (Ea.bS za)] 33);have l1:=HLK.out _ _ hzm (GB.ext Dj.drew);have l2:=HLK.out _ _ HY.out (GB.ext Dj.drew);unfold lnV at l1 l2;dsimp only at l1 l2;rw[HBG.out]at Ww;dsimp only at Ww;have hcz:=GP (a:=(zk,zs,za)) (l:=G);have hcy:=GP (a:=(yk,ys,ya)) (l:=G);generalize hCZ:List.count (zk,zs,za) G=CZ at*;generalize hCY:List.count (yk,ys,ya) G=CY at*;have HCZ:=B0 hCZ;have HCY:=B0 hCY;have Ge:=B0 Dj;clear hzj hzm Dj hCZ hCY;by_cases hc:CY<CZ;(·have hcI:(CY:Int)<(CZ:Int):=C0;rw[G0 hc]at Ww;clear hc;go_wp2_with fail;go_region;go_wp2_with fail;refine⟨⟨j+1,(zk,zs,za),by omega,by go_num,HZM,B0 (by rw[Fp.out,Ww.out,HCZ.out]),B0 ?_,B0 ?_⟩,?_⟩;(·exact Zf (Zm q7) (((Ext.refl _).alloc _).drew));(·exact((Z9 HX.out (J0 _) _ _ _).alloc _).drew);·(simp[intOf];try omega));·have hcI:¬(CY:Int)<(CZ:Int):=C0;rw[D0 hc]at Ww;clear hc;go_wp2_with fail;go_region;go_wp2_with fail;refine⟨⟨j+1,(yk,ys,ya),by omega,by go_num,HY,B0 (by rw[Fp.out,Ww.out,HCY.out]),B0 ?_,B0 ?_⟩,?_⟩;(·exact Zf q7.out (((Ext.refl _).alloc _).drew));(·exact Ge.out.drew);·(simp[intOf];try omega)
 obtain rfl:N=j:=by omega
 clear hj hlt;have aBs:=HBG.out;rw[S1 (by rw[<-Db.out];exact J0 _),Ka.out]at aBs;rw[aBs]at HD;dsimp only at HD;have hcp:=vC.2 HY.out;rw[D0 C0]at HD;have hcy:=GP (a:=(yk,ys,ya)) (l:=G);have l1:=HLK.out _ _ HY.out (GB.ext HX.out.drew);have l2:=HLK.out _ _ HY.out (((((GB.ext HX.out).setRow 0 (.int .i64 yk)).setRow 1 (.string (Ea.bS ys))).setRow 2 (.string (Ea.bS ya))).drew);unfold lnV at l1 l2;dsimp only at l1 l2;generalize List.count (yk,ys,ya) G=CY at*;obtain⟨f0,f1,f2,f3,f4,f5,f6,f7⟩:=Zk (Zf HBR.out HX.out);have HXF:=B0 (HXR.out.trans HX.out);clear aBs HBG;go_wp2_with fail;go_region;go_wp2_with fail;refine J2 (vA results26 rfl (Zf (Zm f7) ((Ext.refl _).drew)) rfl rfl) rfl ?_;rw[HD.out];exact⟨rfl,(Z9 HXF.out (J0 _) _ _ _).drew⟩
end
section
open Go.RowKit
namespace Ln
def tri3(b:Bool):List Bool:=[b,b,b]
def aEg(l:List Bool):Ur l=l.reverse.flatMap tri3:=rfl
def tri_next{l:List Bool}{j i:Nat}{x:Bool}(hi:i+j+1=l.length)(h:l[i]? =some x):(l.reverse.take (j+1)).flatMap tri3=(l.reverse.take j).flatMap tri3++[x,x,x]:=by
 have:l.reverse[j]? =some x:=by rw[KZ C0,<-h];congr 1;omega
 rw[M5,this,NU];rfl
def tri_len(l:List Bool):(l.flatMap tri3).length=3*l.length:=by
 induction l with
 |nil=>rfl
 |cons x l ih=>rw[M7,S0,ih];simp[tri3];omega
def ex_fin:encFin (encEan 1 [53,57,48,49,50,51,52,49,50,51,52,53] [])=(Vl,0):=L2
end Ln
def ZnJ(w:World):Calls prog 10 #[.int .i64 1,.string ⟨#[53,57,48,49,50,51,52,49,50,51,52,53]⟩,.agg #[.int .i64 0,.bool false,.string ⟨#[]⟩]] w (ZD (Ln.Vl,0) w):=by have h:=dT 1 (.inl rfl) ⟨#[53,57,48,49,50,51,52,49,50,51,52,53]⟩ 0 false ⟨#[]⟩ I0 I0 w;rw[show Ln.encFin (Ln.encEan 1 (ByteArray.data ⟨#[53,57,48,49,50,51,52,49,50,51,52,53]⟩).toList (ByteArray.data ⟨#[]⟩).toList)=(Ln.Vl,0)from Ln.ex_fin]at h;exact h
def ZoL(w:World){T A:ByteArray}(hT:T=Ea.bS Ln.Vm)(hA:A=Ea.bS []):(binOp .eql 33 (.agg #[.int .i64 1,.string T,.string A]) (.agg #[.int .i64 1,.string ⟨#[53,57,48,49,50,51,52,49,50,51,52,53,55]⟩,.string ⟨#[]⟩])).run prog w=.ok (.bool true) w:=by have e1:T=⟨#[53,57,48,49,50,51,52,49,50,51,52,53,55]⟩:=hT;have e2:A=⟨#[]⟩:=hA;rw[e1,e2,sW];simp only[beq_self_eq_true,Bool.and_self]
def ZlL(g:Nat)(w:World)(hg:w.heap[g]? =some (.cells #[.bool false,.bool false] 4 (0,0)))(ht:ZQ w):
 Calls prog 15 #[.slice (some ⟨g,0,none⟩) 2 2] w λe w'=>e=.returned (.tuple #[.agg #[.int .i64 0,.string ⟨#[]⟩,.string ⟨#[]⟩],.int .i64 5])/\Ext w w':=by
 have h:Own 4 w 0 (.slice (some ⟨g,0,none⟩) 2 2) ([false,false].map encT):=VG hg rfl C0 (R0 _);have:=yY _ [false,false] w h.IW I0 ht;rw[Ln.ex_two]at this;exact this
def Zjj(g:Nat)(w:World)(x y z:Value)(a b c:List Bool)(hg:w.heap[g]? =some (.cells #[x,y,z] 26 (0,0)))(hx:SlK w x (a.map encT))(hy:SlK w y (b.map encT))(hz:SlK w z (c.map encT)):
 SP w (.slice (some ⟨g,0,none⟩) 3 3) [a,b,c]:=by
 have h:Own 26 w 0 (.slice (some ⟨g,0,none⟩) 3 3) [x,y,z]:=VG hg rfl C0 (R0 _);refine⟨[x,y,z],h.IW,rfl,λi u r hi hr=> ?_⟩
 match i with
 |0=>simp at hi hr;subst hi hr;exact hx
 |1=>simp at hi hr;subst hi hr;exact hy
 |2=>simp at hi hr;subst hi hr;exact hz
 |i+3=>simp at hi
def ZkM(w:World)(ht:ZQ w):Calls prog 9 #[] w λe w'=>e=.returned (.bool true)/\Ext w w':=by
 have HT:=B0 ht;have HE:=B0 ZnJ;have HLQ:=B0 sW;obtain⟨m,hm⟩:∃m,m=Ln.Vl:=⟨_,rfl⟩;have Gz:m.length=113:=by rw[hm];exact Ln.ex_len
 have HD:=B0 (show Ln.decode m=((1,Ln.Vm,[]),0) by rw[hm];exact Ln.ex_dec);have HR:=B0 (show Ln.read (Ln.Ur m)=((1,Ln.Vm,[]),0) by rw[hm];exact Ln.ex_read3);have HV:=B0 (show Ln.vote [m,[],Ln.Ur m]=((1,Ln.Vm,[]),2,0) by rw[hm];exact Ln.ex_vote);rw[<-hm]at HE;have Is:=B0 Gz;clear hm ht Gz;go_enter func9,ntmps9;go_wp2_with fail;refine(HE.out _).mono ?_;rintro e w1 ⟨v1,rfl,Aw,b7⟩;dsimp only at Aw⊢;have Ae:=B0 Aw;have Io:=B0 (nW v1 m w1 Aw (by rw[Is.out];decide) (Z4 HT.out b7));rw[HD.out]at Io;obtain⟨j8,a1,c1,rfl,Yg⟩:=Aw;rw[M0,Is.out]at Ae Io Yg⊢;have n9:∃x,m[0]? =some x:=⟨_,P0 (by rw[Is.out];decide)⟩;obtain⟨x0,n9⟩:=n9;have aEH:=Ae.out.1;obtain⟨b,o,ha,hb,-⟩:=aEH.Xn (Ext.refl _) n9;subst ha;unfold gotV linV at Io;dsimp only at Io;have IK:=B0 b7;clear j8 aEH n9 b7;go_wp2_with fail;refine Io.out.mono ?_;rintro e w2 ⟨rfl,j0⟩;have IA:=B0 (IK.out.trans j0);have Hh:=B0 (Ae.out.ext j0);obtain⟨T,hT⟩:∃T,T=Ea.bS Ln.Vm:=⟨_,rfl⟩;obtain⟨A,hA⟩:∃A,A=Ea.bS []:=⟨_,rfl⟩;rw[<-hT,<-hA];have Tp:=B0 (And.intro hT hA);clear Io j0 hT hA;go_wp2_with fail;obtain⟨w3,Td⟩:∃w3,w3=w2.alloc (.cells #[.int .i64 1,.string T,.string A] 33):=⟨_,rfl⟩;rw[<-Td];have Ct:Hid (Ext w w3):=B0 (by rw[Td];exact IA.out.alloc _);have Hy:Hid (w3.heap[w2.heap.size]? =some (.cells #[.int .i64 1,.string T,.string A] 33 (0,0))):=B0 (by rw[Td];exact X2 _ _);have En:Hid (SlK w3 (.slice (some ⟨b,o,none⟩) 113 c1) (m.map encT)):=B0 (by rw[Td];exact Hh.out.ext ((Ext.refl _).alloc _));clear Td IA Ae Hh IK hb;go_loopw [5,6] (λu t wr=>∃(j:Nat)(q:Int),t=.int .i64 q/\-1<=q/\q<=112/\Hid (q+(j:Int)=112)/\Hid (Own 4 wr w3.heap.size u (((m.reverse.take j).flatMap Ln.tri3).map encT))/\Hid (Ext w3 wr)) (λ_ t _=>(intOf t+1).toNat);case atStart=>exact⟨0,112,rfl,by omega,by omega,B0 C0,B0 (Own.nil _ _ _),B0 (Ext.refl _)⟩
 case round=>
 obtain⟨j,q,rfl,Ht,Ii,HQ,HO,HX⟩:=hrel;by_cases hq:0<=q
 .obtain⟨i,rfl⟩:∃i:Nat,q=(i:Int):=⟨q.toNat,by omega⟩;have Sp:i+j+1=m.length:=(by have:=HQ.out;rw[Is.out];omega);obtain⟨x,IY⟩:∃x,m[i]? =some x:=⟨_,P0 C0⟩;have HTN:=B0 (Ln.tri_next Sp IY);have b8:=HO.out;have j8:=En.out.1.ext HX.out;obtain⟨b',o',ha,hb,hc⟩:=j8.Xn (Ext.refl wr) IY;injection ha with ha;injection ha with ha Kh;subst ha Kh;have Jv:((m.reverse.take j).flatMap Ln.tri3).length=3*j:=(by rw[Ln.tri_len,J1,D6];omega);have hj:j<=113:=YC;generalize(m.reverse.take j).flatMap Ln.tri3=L at*;obtain⟨v',w5,Cm,l6,j6⟩:=vY (w:=(wr.alloc (.cells #[.bool x,.bool x,.bool x] 4)).drew) 26 4 (.bool false) 1 underlying26 UJ rfl I0 w3.heap.size _ (L.map encT) (.inl (b8.ext ((Ext.refl _).alloc (.cells #[.bool x,.bool x,.bool x] 4)).drew)) wr.heap.size 0 3 3 [encT x,encT x,encT x] rfl C0
   (λj u hj=>by
    match j with
    |0=>simp only[List.getElem?_cons_zero,P2]at hj;subst hj;simp[go_sem,encT]
    |1=>simp only[List.getElem?_cons_succ,List.getElem?_cons_zero,P2]at hj;subst hj;simp[go_sem,encT]
    |2=>simp only[List.getElem?_cons_succ,List.getElem?_cons_zero,P2]at hj;subst hj;simp[go_sem,encT]
    |j+3=>simp at hj)
   (λu hu=>by simp only[E2,J4,F4]at hu;rcases hu with rfl|rfl|rfl<;>rfl)
   J5 (by have:=HX.out.size;simp;omega)
  have p7:=B0 (((HX.out.alloc (.cells #[.bool x,.bool x,.bool x] 4)).drew).l8 j6 b8.low);have s6:Hid (Own 4 w5 w3.heap.size v' (((m.reverse.take (j+1)).flatMap Ln.tri3).map encT)):=B0 (by rw[HTN.out,R2];exact l6);have Kl:(i:Int)<113:=C0;have hcd:(wr.alloc (.cells #[.bool x,.bool x,.bool x] 4)).heap.size=wr.heap.size+1:=L0;clear l6 j6 b8 j8 IY Sp Jv hcd HO;go_wp2;go_region_law ((refine vZ (by rfl) _ _ _ (by rfl) (by rfl) _ _ (by rfl) (by rfl) _ _ Cm ?_));all_goals go_wp2;exact⟨⟨j+1,(i:Int)-1,rfl,by omega,by omega,B0 (by have:=HQ.out;omega),s6,p7⟩,by(simp[intOf];try omega)⟩
 obtain rfl:q= -1:=by omega
 have hj:j=113:=YC;have Og:(m.reverse.take j).flatMap Ln.tri3=Ln.Ur m:=by rw[S1 (by rw[D6,Is.out,hj];exact J0 _)];rfl
 rw[Og]at HO;have HLN:Hid (∀r∈[m,[],Ln.Ur m],r.length<=1000000):=B0 (by intro r hr;simp only[E2,J4,F4]at hr;rcases hr with rfl|rfl|rfl;(·rw[Is.out];decide);(·decide);·rw[Ln.aEg,Ln.tri_len,D6,Is.out];decide);have Gm:Hid ((Ln.Ur m).length=339):=B0 (by rw[Ln.aEg,Ln.tri_len,D6,Is.out]);have Dq:=B0 (yY u5 (Ln.Ur m) wr HO.out.IW (by rw[Gm.out];decide) (Z4 HT.out (Ct.out.trans HX.out)));rw[HR.out]at Dq;have HSK:=B0 HO.out.IW;obtain⟨-,a5,c5,rfl,-⟩:=HO.out.IW;rw[M0,Gm.out]at HSK Dq⊢;have Hi:=B0 (Ct.out.trans HX.out);have HB6:=B0 (Zf Hy.out HX.out);have Ve:=B0 (En.out.ext HX.out);unfold gotV linV at Dq;dsimp only at Dq;rw[<-Tp.out.1,<-Tp.out.2]at Dq;clear hj Og HQ hq Ht Ii HO HX Hy En Ct;go_wp2_with fail;refine Dq.out.mono ?_;rintro e w6 ⟨rfl,o9⟩;have Rl:=B0 (Hi.out.trans o9);have HB7:=B0 (Zf HB6.out o9);have HV7:=B0 (Ve.out.ext o9);have HS7:=B0 (HSK.out.ext o9);clear Hi HB6 Ve HSK o9 Dq;go_wp2_with fail;refine(ZlL _ _ (ZO L0 (Ext.refl _)) (Z4 HT.out ((Rl.out.alloc _).alloc _))).mono ?_;rintro e w7 ⟨rfl,Ax⟩;have Lz:=B0 (((Rl.out.alloc _).alloc _).trans Ax);have HB8:=B0 (Zf HB7.out ((((Ext.refl w6).alloc _).alloc _).trans Ax));have HB9:=B0 (Zf (Zf (X2 w6 (.cells #[.int .i64 1,.string T,.string A] 33)) ((Ext.refl _).alloc _)) Ax);have HV8:=B0 (HV7.out.ext ((((Ext.refl w6).alloc _).alloc _).trans Ax));have HS8:=B0 (HS7.out.ext ((((Ext.refl w6).alloc _).alloc _).trans Ax));have hs8:=Ax.size;have HL8:Hid (w6.heap.size+2<=w7.heap.size):=B0 (by simp at hs8;exact hs8);clear Rl HB7 HV7 HS7 Ax hs8;go_wp2_with fail;have IQ:=B0 (Zjj (w7.heap.size+1) ((w7.alloc (.cells #[.int .i64 0,.string ⟨#[]⟩,.string ⟨#[]⟩] 33)).alloc (.cells #[.slice (some ⟨b,o,none⟩) 113 c1,.slice none 0 0,.slice a5 339 c5] 26)) _ _ _ m [] (Ln.Ur m) (ZO L0 (Ext.refl _)) (HV8.out.ext (((Ext.refl _).alloc _).alloc _)) (SlK.nil _) (HS8.out.ext (((Ext.refl _).alloc _).alloc _)));have HVT:=B0 (ZnB _ _ _ IQ.out (Nat.le_of_ble_eq_true rfl) HLN.out (Z4 HT.out ((Lz.out.alloc _).alloc _)));rw[HV.out]at HVT;unfold sX lnV at HVT;dsimp only at HVT;rw[<-Tp.out.1,<-Tp.out.2]at HVT;refine HVT.out.mono ?_;rintro e w8 ⟨rfl,Hb⟩;obtain⟨p0,p1,p2,p3,-,-,-,-⟩:=Zk (Zf HB8.out ((((Ext.refl w7).alloc _).alloc _).trans Hb));obtain⟨q0,q1,q2,q3,-,-,-,-⟩:=Zk (Zf HB9.out ((((Ext.refl w7).alloc _).alloc _).trans Hb));have Fc:=B0 (((Lz.out.alloc _).alloc _).trans Hb);have HEQ:=λw'=>ZoL w' Tp.out.1 Tp.out.2;clear Lz HB8 HB9 HV8 HS8 Hb HVT IQ;go_wp2;go_ret;exact⟨rfl,(Fc.out.alloc _).alloc _⟩
def ZmP(v u:Value)(l:List Bool)(w:World)(hv:SlK w v (l.map encT))(hu:SlK w u (l.map encT))(hl:l.length<=1000000):
 Calls prog 12 #[v,u] w λe w'=>e=.returned (.bool true)/\Ext w w':=by
 obtain⟨Cf,a,c,rfl,_⟩:=hv;obtain⟨Yu,b,f,rfl,_⟩:=hu;rw[M0]at Cf Yu⊢;obtain⟨n,hn⟩:∃n,n=l.length:=⟨_,rfl⟩;rw[<-hn]at Cf Yu hl⊢;have HN:=B0 hn;have HV:=B0 Cf;have HU:=B0 Yu;clear Cf Yu hn;go_enter func12,ntmps12;go_wp2;go_loopw [5] (λv5 wr=>∃k:Nat,k<=n/\v5=.int .i64 (k:Int)/\Ext w wr) (λv5 _=>n-(intOf v5).toNat)
 case atStart=>exact⟨0,R0 _,rfl,Ext.refl _⟩
 case round=>
  obtain⟨k,hk,rfl,j3⟩:=hrel;by_cases hlt:k<n
  .have hkI:(k:Int)<(n:Int):=by omega
   have Jo:k<l.length:=by rw[<-HN.out];exact hlt
   obtain⟨p,o,ha,hpb,hpc⟩:=HV.out.at_ (k:=k) (by rw[M0];exact Jo)
   subst ha
   obtain⟨q,r,hb,hqb,Yr⟩:=HU.out.at_ (k:=k) (by rw[M0];exact Jo)
   subst hb
   obtain⟨x,hx⟩:∃x,l[k]=x:=⟨_,rfl⟩
   rw[X9,hx]at hpc Yr
   have Am:=(j3.cell (p:=⟨p,o+k,none⟩) hpb).trans hpc
   have IS:=(j3.cell (p:=⟨q,r+k,none⟩) hqb).trans Yr
   unfold encT at Am IS
   clear hpc Yr hx Jo
   cases x with
   |false=>exact tA
   |true=>exact tA
  .obtain rfl:k=n:=C0;clear hk hlt;exact DJ
def Ln.fin_len(x:List Bool×Int):(Ln.encFin x).1.length<=65536:=by
 unfold Ln.encFin;split;·exact R0 _
 .split;(·exact R0 _);·omega
def law_encode(k:Int)(s a:ByteArray)(r:Int)(ck:Bool)(w:World)(ht:ZQ w):
 Calls prog 3 #[.int .i64 k,.string s,.agg #[.int .i64 r,.bool ck,.string a]] w λe w'=>e=.returned (.bool true)/\Ext w w':=by
 have HT:=B0 ht;have Ol:=B0 ZkM;clear ht;by_cases Wj:60<s.size
 .have Ta:60<(s.size:Int):=C0;clear Wj;exact tB
 have Ta:¬60<(s.size:Int):=by omega
 by_cases ha6:60<a.size
 .have haI:60<(a.size:Int):=C0;clear Wj ha6;exact tB
 have haI:¬60<(a.size:Int):=by omega
 have aC9:s.size<=60:=by omega
 have HEN:=B0 (λ(w':World)(h:Ext w w')=>ZiS k s r ck a aC9 C0 w' (Z4 HT.out h));have Ou:=B0 (λ(w':World)=>ZiY k s r ck a aC9 C0 w');have Gz:=Ln.fin_len (Ln.aAK k s.data.toList r ck a.data.toList);rw[show Ln.encFin (Ln.aAK k s.data.toList r ck a.data.toList)=Ln.encode k s.data.toList r ck a.data.toList from rfl]at Gz;generalize Ln.encode k s.data.toList r ck a.data.toList=en at*;obtain⟨m,er⟩:=en;dsimp only at Gz;have HEQ:=B0 (λ(v u:Value)(w:World) hv hu=>ZmP v u m w hv hu C0);clear Wj ha6 aC9 Gz;go_enter func3,ntmps3;go_wp2_with fail;refine(HEN.out _ ((Ext.refl w).alloc _)).mono ?_;rintro e w1 ⟨v1,rfl,Aw,b7⟩;obtain⟨d0,d1,d2,d3,d4,d5,d6,d7⟩:=Zk (Zf (X2 w (.cells #[.int .i64 r,.bool ck,.string a] 24)) b7);have Ae:=B0 Aw;have IK:Hid (Ext w w1):=B0 (((Ext.refl w).alloc _).trans b7);clear Aw b7;go_wp2_with fail;refine(Ou.out _).mono ?_;rintro e w2 ⟨v2,rfl,Ez,j0⟩;have Hh:=B0 Ez;have En:=B0 (Ae.out.ext j0);have IA:Hid (Ext w w2):=B0 (IK.out.trans j0);dsimp only at Hh En;clear Ez j0 d0 d1 d2 d3 d4 d5 d6 d7;go_wp2_with fail;refine(HEQ.out _ _ _ En.out Hh.out).mono ?_;rintro e w3 ⟨rfl,j4⟩;have Ct:=B0 (IA.out.trans j4);clear j4;go_wp2_with fail;refine(Ol.out _ (Z4 HT.out Ct.out)).mono ?_;rintro e w4 ⟨rfl,j9⟩;go_wp2;go_ret;exact⟨rfl,Ct.out.trans j9⟩
end
end Go.Proofs.Enc
