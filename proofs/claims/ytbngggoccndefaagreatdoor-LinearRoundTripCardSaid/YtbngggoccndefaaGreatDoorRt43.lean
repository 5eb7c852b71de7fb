/-
  Laid.
-/
import Derived.Test.YtbngggoccndefaaGreatDoorRt42
set_option maxHeartbeats 8000000
set_option maxRecDepth 100000
set_option linter.all false
namespace Go.Proofs.YtbngggoccndefaaGreatDoor
open Go.Proofs.Tryz
section
open Go.RowKit
def N8 (xs:List Int) (i:Nat) (L:List Int):Prop:=L.length=xs.length∧∀k,k<xs.length->L[k]? =if k<i∨xs.length-1-i<k then xs[xs.length-1-k]? else xs[k]?
theorem N8.zero (xs:List Int):N8 xs 0 xs:=⟨rfl,fun k hk=>by rw[D0 C0]⟩
theorem N8.next {xs L:List Int} {i j:Nat} {x y:Int} (h:N8 xs i L) (hj:j=xs.length-1-i) (hij:i<j) (hi:L[i]? =some x) (hy:L[j]? =some y):N8 xs (i+1) ((L.set i y).set j x):=by
 have hx1:=h.2 i C0;rw[D0 C0,hi]at hx1;have hy1:=h.2 j C0;rw[D0 C0,hy]at hy1;have hll:=h.1;refine⟨by rw[O6,O6];exact h.1,fun k hk=> ?_⟩;by_cases e1:j=k;·subst e1;rw[P7 (by rw[O6,hll];exact hk),G0 C0,show xs.length-1-j=i by omega,hx1]
 ·rw[I9 e1];by_cases e2:i=k;(·subst e2;rw[P7 (by rw[hll];exact hk),G0 C0,<-hj,hy1]);·rw[I9 e2,h.2 k hk];by_cases e3:k<i∨xs.length-1-i<k;(·rw[G0 e3,G0 C0]);·rw[D0 e3,D0 C0]
theorem N8.all {xs L:List Int} {i:Nat} (h:N8 xs i L) (hi:xs.length-1<=2*i):L=xs.reverse:=by
 apply UM;intro k;by_cases hk:k<xs.length;·rw[h.2 k hk,OY hk];split;(·rfl);·congr 1;omega
 ·rw[YN (by rw[h.1];omega),YN (by rw[P4];omega)]
theorem pF (g n c B:Nat) (xs:List Int) (w:World) (hn:xs.length=n) (hl:n<=1000000) (hown:Own 3 w B (.slice (some ⟨g,0,none⟩) n c) (xs.map encI)):
 Calls prog 45 #[.slice (some ⟨g,0,none⟩) n c] w fun e w'=>e=.returned (.tuple #[])∧Own 3 w' B (.slice (some ⟨g,0,none⟩) n c) (xs.reverse.map encI)∧GB (some g) w w':=by
 have HO0:=B0 hown
 have HN:=B0 hn
 clear hown hn
 go_enter func45,ntmps45
 go_wp2_with fail
 go_loopw [2,3] (fun ti tj wr=>∃(i:Nat) (j:Int) (L:List Int),i<=n∧ti=.int .i64 (i:Int)∧tj=.int .i64 j∧j=(n:Int)-1-(i:Int)∧Hid (N8 xs i L)∧Hid (Own 3 wr B (.slice (some ⟨g,0,none⟩) n c) (L.map encI))∧Hid (GB (some g) w wr)) (fun ti _ _=>n-(intOf ti).toNat)
 case atStart=>exact⟨0,_,xs,U0 _,rfl,rfl,by omega,B0 (N8.zero xs),HO0,B0 (GB.refl _)⟩
 case round=>
 clear HO0
 obtain⟨i,jj,L,hi,rfl,rfl,hj,HR,HO,HG⟩:=hrel
 by_cases hlt:(i:Int)<jj
 ·obtain⟨j,rfl⟩:∃j:Nat,jj=(j:Int):=⟨jj.toNat,by omega⟩;have hjn:j<n:=C0;have hin:i<n:=C0;have hiI:(i:Int)<(n:Int):=C0;have hjI:(j:Int)<(n:Int):=C0;have hLl:L.length=n:=(by rw[HR.out.1,HN.out]);obtain⟨x,hx⟩:∃x,L[i]? =some x:=⟨_,P0 C0⟩;obtain⟨y,hy⟩:∃y,L[j]? =some y:=⟨_,P0 C0⟩;obtain⟨b1,o1,ha1,-,hc1⟩:=HO.out.slk.1.int_at (c:=c) (n:=n) (Ext.refl wr) hx;injection ha1 with ha1;injection ha1 with q1 q2;subst q1 q2;obtain⟨b1,o1,ha1,-,hc2⟩:=HO.out.slk.1.int_at (c:=c) (n:=n) (Ext.refl wr) hy;injection ha1 with ha1;injection ha1 with q1 q2;subst q1 q2;rw[P3]at hc1 hc2;obtain⟨_,_,f1⟩:=HO.out.intAt (i:=i) C0;obtain⟨_,_,f2⟩:=HO.out.intAt (i:=j) C0;have HR9:=B0 (HR.out.next (by rw[HN.out];omega) C0 hx hy);have HO9:=B0 (((HO.out.putI i y).1.putI j x).1);have HG9:=B0 ((HG.out.trans (ZC wr g i (.int .i64 y))).trans (ZC _ g j (.int .i64 x)));have HJ2:Hid ((j:Int)-1=(n:Int)-1-((i+1:Nat):Int)):=B0 C0;clear hx hy hLl hj;go_wp2_with fail;go_region;go_wp2_with fail;go_roundw;(case rel=>exact⟨i+1,_,_,by omega,by go_num,rfl,HJ2.out,HR9,B0 HO9.out.drew,B0 HG9.out.drew⟩);case measure=>exact Qr
 ·have HF:Hid (L=xs.reverse):=B0 (HR.out.all (by rw[HN.out];omega));have hO:=HO.out;rw[HF.out]at hO;have HO9:=B0 hO;clear hO;go_wp2;go_end0;exact⟨rfl,by first|exact HO9.out|(rw[<-List.map_reverse];exact HO9.out),HG.out⟩
theorem pG (b o n c:Nat) (xs:List Int) (w:World) (hn:xs.length=n) (h1:1<=n) (hl:n<=1000000) (hv:Sl w (.slice (some ⟨b,o,none⟩) n c) (xs.map encI)):
 Calls prog 44 #[.slice (some ⟨b,o,none⟩) n c] w fun e w'=>∃g c',e=.returned (.slice (some ⟨g,0,none⟩) n c')∧Own 3 w' w.heap.size (.slice (some ⟨g,0,none⟩) n c') (xs.map encI)∧Ext w w':=by
 have HV:=B0 hv
 have HN:=B0 hn
 have HO0:Hid (Own 3 (w.alloc (.cells #[] 3)) w.heap.size (.slice (some ⟨w.heap.size,0,none⟩) 0 0) []):=B0 ⟨rfl,.inr ⟨w.heap.size,0,#[],rfl,I0 _,E2 _ _,I0 _,by decide,rfl,rfl⟩⟩
 have hbo:∀w:World,(binOp BinOp.eql 43 (.slice (some ⟨b,o,none⟩) n c) (.slice none 0 0)).run prog w=.ok (.bool false) w:=fun w=>by kernel_rfl
 clear hv hn
 go_enter func44,ntmps44
 go_wp2_with (at_builtin;refine ZW rfl _ _ 43 3 (.int .i64 0) 8 rfl underlying43 XI rfl J0 w.heap.size _ [] rfl HO0.out b o n c (xs.map encI) rfl ?c1 ?c2 ?c3 ?c4 ?c5 ?_)
 case c1=>rw[N0];exact HN.out
 case c2=>intro j u hj;rcases HV.out.ext ((Ext.refl w).alloc (.cells #[] 3))with⟨h,_⟩|⟨b',o',cp,h,hb',hc⟩;(·rw[h]at hj;cases hj);·injection h with e1 e2 e3;injection e1 with e1;injection e1 with e1 e4;subst e1 e4;have hjl:=(J1.1 hj).1;rw[hc j hjl];exact hj
 case c3=>intro y hy;obtain⟨z,_,rfl⟩:=J3.1 hy;rfl
 case c4=>exact E1
 case c5=>simp
 intro v' w5 hown5 hg5
 have hX5:Ext w w5:=((Ext.refl w).alloc _).ofGrown hg5 HO0.out.low
 have hown5:Own 3 w5 w.heap.size v' (xs.map encI):=hown5
 have hfm:∃g c',v'=.slice (some ⟨g,0,none⟩) n c':=by rcases hown5.2 with⟨_,h⟩|⟨g,cap,cur,h,_⟩;(·rw[N0]at h;exact A9);·rw[N0,HN.out]at h;exact⟨g,cap,h⟩
 obtain⟨g,c',rfl⟩:=hfm
 have HO5:=B0 hown5
 have HX5:=B0 hX5
 clear hown5 hg5 hX5
 go_wp2_with fail
 go_ret
 exact⟨g,c',rfl,HO5.out,HX5.out⟩
theorem Rn.widths_nil (m:List Bool):Rn.widths m=[]↔Rn.core m=[]:=by
 unfold Rn.widths Rn.widthsN
 cases h:Rn.core m with
 |nil=>simp
 |cons b r=>dsimp only;constructor;(·intro e;have:=Rn.runs_ne r b 1;exact absurd (List.map_eq_nil_iff.1 e) this);·intro e;cases e
theorem pH {P:Int->Prop} {l:List Int} (h:∀x∈l,P x):∀x∈l.reverse,P x:=fun x hx=>h x (SF.1 hx)
theorem FV (v:Value) (m:List Bool) (w:World) (hv:SlK w v (m.map encT)) (hm:m.length<=1000000) (ht:ZB w):
 Calls prog 15 #[v] w fun e w'=>e=.returned (gotV (Ln.read m))∧Ext w w':=by
 have HT:=B0 ht
 have HCT:=B0 (fun w' (h:Ext w w')=>uB v m w' (hv.ext h).1 hm)
 have HWD:=B0 (fun w' (h:Ext w w')=>KX v m w' (hv.ext h) hm)
 have HMG:=B0 (fun w' (h:Ext w w')=>PL v m w' (hv.ext h) hm)
 obtain⟨hwin,hwlen⟩:=Rn.widths_in m
 obtain⟨hlA,hlB⟩:=Rn.ldg_len m
 have hdk:=Ln.dark_core m
 have hwn:=Rn.widths_nil m
 have HD:=B0 (Ln.read.eq_1 m)
 have HRV:=B0 (Ln.readD_rev m)
 have HRD:=B0 (show Ln.readD m=Ln.try_ (Rn.widths m) (Ea.ldg m) (Ea.trl m)from rfl)
 generalize Ln.read m=res at*
 obtain⟨-,a,c,rfl,-⟩:=hv
 rw[N0]at HCT HWD HMG⊢
 generalize Ea.ldg m=A at*
 generalize Ea.trl m=B at*
 generalize Rn.widths m=ws at*
 generalize m.length=ml at*
 by_cases h4:65536<ml
 ·have h4I:65536<(ml:Int):=C0;rw[G0 h4]at HD;clear h4 HCT HWD HMG hdk hwn hwin hwlen hlA hlB;go_enter func15,ntmps15;exact uL
 have h4I:¬65536<(ml:Int):=by omega
 rw[D0 h4]at HD
 cases hdb:Ln.dark m with
 |false=>rw[hdb]at HCT HD;rw[G0 rfl]at HD;clear h4 HWD HMG hdk hwn hwin hwlen hlA hlB hdb;go_enter func15,ntmps15;go_wp2_with fail;refine(HCT.out _ Xf).mono ?_;rintro e w1 ⟨rfl,rfl⟩;exact uL
 |true=>
 have hne:ws≠ []:=fun e=>by have:=hdk.2 (hwn.1 e);rw[hdb]at this;cases this
 rw[hdb]at HCT HD
 rw[D0 J0]at HD
 have hw1:∀x∈ws,1<=x∧x<=65536:=fun x hx=>by have:=hwin x hx;omega
 have hpos:1<=ws.length:=F6.2 hne
 obtain⟨n,hn⟩:∃n,n=ws.length:=⟨_,rfl⟩
 have HN:=B0 hn
 have HTY:=B0 (fun v w' (h:Sl w' v (ws.map encI)) (h2:ZB w')=>uH v ws A B w' h hne C0 hw1 C0 C0 h2)
 have HTZ:=B0 (fun v w' (h:Sl w' v (ws.reverse.map encI)) (h2:ZB w')=>uH v ws.reverse B A w' h (by simpa using hne) (by rw[P4];omega) (pH hw1) C0 C0 h2)
 have hnl:n<=65536:=by omega
 have hn1:1<=n:=by omega
 clear h4 hdk hwn hwin hlA hlB hdb hw1 hne hpos hwlen hn
 go_enter func15,ntmps15
 go_wp2_with fail
 refine(HCT.out _ Xf).mono ?_
 rintro e w1 ⟨rfl,rfl⟩
 go_wp2_with fail
 refine(HWD.out _ Xf).mono ?_
 rintro e w2 ⟨u,rfl,hu,hx2⟩
 obtain⟨hsl,au,cu,rfl,-⟩:=hu
 rw[N0,<-HN.out]at hsl⊢
 obtain⟨x0,hx0⟩:∃x,ws[0]? =some x:=⟨_,P0 R7⟩
 obtain⟨b,o,ha,-,-⟩:=hsl.int_at (Ext.refl w2) hx0
 subst ha
 have HU:=B0 hsl
 have HX2:=B0 hx2.before
 have HB2:=B0 (Z9 rfl hx2)
 clear hsl hx0 hx2
 go_wp2_with fail
 refine(HMG.out w2 HX2.out).mono ?_
 rintro e w3 ⟨rfl,rfl⟩
 go_wp2_with fail
 refine(HTY.out _ w2 HU.out (Zj HT.out HX2.out)).mono ?_
 rintro e w4 ⟨⟨rk,rt,ra⟩,rfl,ho,hx4⟩
 obtain⟨o1,ho1⟩:∃o1,o1=Ln.try_ ws A B:=⟨_,rfl⟩
 rw[<-ho1]at ho HRD⊢
 rw[HRD.out]at HD
 have HX4:=B0 (HX2.out.trans hx4)
 have HB4:=B0 (Zb HB2.out hx4)
 have HU4:=B0 (HU.out.ext hx4)
 unfold linV
 dsimp only
 obtain⟨f0,f1,f2,f3,f4,f5,f6,f7⟩:=Zd HB4.out
 clear ho1 hx4
 cases o1 with
 |some y=>have HF:Hid (res=((rk,rt,ra),0)):=B0 uM;clear HD ho;dsimp only[Option.isSome];go_wp2_with fail;refine R1 (Ze results15 rfl (Zb (Zf f7) ((Ext.refl _).alloc _)) rfl) rfl ?_;rw[HF.out];exact⟨rfl,(Zu HX4.out (I0 _) _ _ _).alloc _⟩
 |none=>
  dsimp only at HD
  rw[HRV.out]at HD
  clear ho
  dsimp only[Option.isSome]
  go_wp2_with fail
  refine(pG b o n cu ws _ HN.out.symm hn1 C0 (HU4.out.ext ((Ext.refl _).alloc _))).mono ?_
  rintro e w5 ⟨g,c5,rfl,ho5,hx5⟩
  have HO5:=B0 ho5
  have hX5:=((Ext.refl w4).alloc (.cells #[.int .i64 rk,.string (Ea.bS rt),.string (Ea.bS ra)] 33)).trans hx5
  have HG5:Hid (w4.heap.size<=g):=B0 (by have:=ho5.low g rfl;simp at this;omega)
  have HX5:=B0 hX5
  clear ho5 hx5 hX5
  go_wp2_with fail
  refine(pF g n c5 _ ws w5 HN.out.symm C0 HO5.out).mono ?_
  rintro e w6 ⟨rfl,ho6,hg6⟩
  have HO6:=B0 ho6
  have HX6:Hid (Ext w4 w6):=B0 (HX5.out.ofGrown hg6 (fun k hk=>by injection hk with hk;subst hk;exact HG5.out))
  clear ho6 hg6
  go_wp2_with fail
  refine(HTZ.out _ w6 HO6.out.slk.1 (Zj HT.out (HX4.out.trans HX6.out))).mono ?_
  rintro e w7 ⟨⟨sk,st,sa⟩,rfl,ho,hx7⟩
  obtain⟨o2,ho2⟩:∃o2,o2=Ln.try_ ws.reverse B A:=⟨_,rfl⟩
  rw[<-ho2]at ho HD⊢
  have HX7:=B0 ((HX4.out.trans HX6.out).trans hx7)
  obtain⟨g0,g1,g2,g3,g4,g5,g6,g7⟩:=Zd (Zb (Zb HB4.out HX6.out) hx7)
  unfold linV
  dsimp only
  clear ho2 hx7 f0 f1 f2 f3 f4 f5 f6 f7
  cases o2 with
  |some y=>have HF:Hid (res=((sk,st,sa),0)):=B0 uM;exact uN
  |none=>have HF:Hid (res=(Ln.zero,18)):=B0 HD.out;exact uN
end
section
namespace Ln
def Small (l:Lin):Prop:=0<=l.1∧l.1<=9∧l.2.1.length<=1000000∧l.2.2.length<=1000000
theorem full_len {k:Int} {l:List UInt8} (h:Ea.full k l=0):1<=k∧k<=4∧l.length<=13:=by
 unfold Ea.full at h;split at h;·cases h
 by_cases h0:Ea.size k=0;·unfold Ea.comp at h;rw[G0 h0]at h;cases h
 have hk:=Ea.kinds h0;have hs:Ea.size k<=13:=by unfold Ea.size;exact M5
 refine⟨by omega,by omega,?_⟩;unfold Ea.comp at h;rw[D0 h0]at h;split at h;·cases h
 split at h;·cases h
 omega
theorem sym_len {n:Nat} {s:List Bool} (h:(Ea.rdSym n s).2=0):1<=(Ea.rdSym n s).1.1∧(Ea.rdSym n s).1.1<=4∧(Ea.rdSym n s).1.2.length<=13:=by
 unfold Ea.rdSym at h⊢
 split
 ·rename_i h1;exact XB
 rename_i h1
 rw[D0 h1]at h
 split
 ·rename_i h2;exact ZZ
 rename_i h2
 rw[D0 h2]at h
 cases hr:Ea.rdK n s with
 |none=>rw[hr]at h;cases h
 |some l=>rw[hr]at h;dsimp only at h⊢;split;(·rename_i h3;exact UR);rename_i h3;have:=full_len (V7.1 h3);split;(·simp only[L2];omega);·exact R2
theorem ean_small {row:List Bool} (h:(Ea.dec row).2=0):Small (Ea.dec row).1:=by
 have h1:=Ea.dec_ok h;rw[h1]at h⊢;obtain⟨⟨n,a⟩,p1,p2,p3,p4⟩:=Ea.decF_inv Ea.shapes 7 J0 (fun _ _ _ _=>trivial) h;rw[p4];dsimp only at p2 p3 p4⊢;have hna:(a=0∨a=2∨a=5):=by unfold Ea.shapes at p1;simp at p1;omega
 unfold Ea.rdShape at p3⊢;by_cases e1:(Ea.rdSym n ((Ea.trim row).take n)).2≠0;·rw[G0 e1]at p3;exact absurd p3 e1
 rw[D0 e1]at p3⊢;have hs:=sym_len (V7.1 e1);by_cases e2:a=0;·rw[G0 e2];exact⟨by dsimp only;omega,by dsimp only;omega,by dsimp only;omega,by simp⟩
 rw[D0 e2]at p3⊢;by_cases e3:(Ea.rdAdd a ((Ea.trim row).drop ((Ea.trim row).length-Ea.wAdd a))).2≠0;·rw[G0 e3]at p3;exact absurd p3 e3
 rw[D0 e3];have h5:=Ea.rdAdd_ok (n:=a) (s:=(Ea.trim row).drop ((Ea.trim row).length-Ea.wAdd a)) C0 (V7.1 e3);exact⟨by dsimp only;omega,by dsimp only;omega,by dsimp only;omega,by dsimp only;omega⟩
theorem read_len (cs ps edge inner:List UInt8) (z:Nat) (e:List UInt8):(Tw.read cs ps edge inner z e).1.length<=e.length+1:=by
 unfold Tw.read;split;·simp
 ·rw[N0,G7];exact Nat.div_le_self _ _
theorem readItf_len (e:List UInt8):(Tw.readItf e).1.length<=2*e.length:=by
 unfold Tw.readItf;split;·simp
 split;·simp
 split;·simp
 have:∀(l:List Nat),(l.flatMap fun i=>[(Tw.digA e i).1,(Tw.digB e i).1]).length=2*l.length:=by
  intro l
  induction l with
  |nil=>rfl
  |cons x l ih=>simp only[P5,O0,S0,U2,ih];omega
 rw[this,G7];have:=Nat.div_le_self (e.length-7) 10;omega
theorem GK (ws:List Int):(Tw.wide ws).1.length<=ws.length:=by unfold Tw.wide;(repeat' split)<;>simp
theorem GL (k:Nat) (e:List UInt8):(Tw.readK k e).1.length<=2*e.length+1:=by
 unfold Tw.readK;split;·have:=read_len Tw.c39 Tw.p39 [42] Cd.syms 9 e;omega
 ·have:=read_len Tw.cCb Tw.pCb Tw.eCb Tw.dCb 7 e;omega
 ·have:=readItf_len e;omega
theorem GM (k:Nat) (l:List UInt8) (c:Bool):(Tw.textK k l c).length<=l.length+1:=by
 unfold Tw.textK;split;·unfold Tw.text39;exact NP
 ·unfold Tw.textCb;split;(·rw[O0,L1,L2];omega);·omega
 ·unfold Tw.textItf;split;(·rw[L1];omega);·omega
theorem decK_len (k:Nat) (ws:List Int) (c:Bool):(Tw.decK k ws c).1.length<=2*ws.length+2:=by
 have h1:=GM k (Tw.readK k (Tw.elems (Tw.wide ws).1)).1 c;have h2:=GL k (Tw.elems (Tw.wide ws).1);have h3:(Tw.elems (Tw.wide ws).1).length=(Tw.wide ws).1.length:=by unfold Tw.elems;simp
 have h4:=GK ws;unfold Tw.decK;split;·simp
 split;·simp
 split;·simp
 split;·simp
 dsimp only;omega
theorem two_small {k:Int} {row:List Bool} {l:Lin} (hk:0<=k∧k<=9) (hr:row.length<=65536) (h:rTwo k row=some l):Small l:=by
 unfold rTwo at h;split at h;·injection h with h;subst h;refine⟨hk.1,hk.2,?_,by simp⟩;have h1:=(Rn.widths_in row).2;(have h2:∀j,(Tw.decK j (Rn.widths row) false).1.length<=1000000:=fun j=>by have:=decK_len j (Rn.widths row) false;omega);dsimp only;unfold Tw.dec;(repeat' split);(·exact h2 _);(·exact h2 _);(·exact h2 _);·simp
 ·cases h
theorem format_len {xs:List Gs.El} {s:List UInt8} (h:Gs.format xs=(s,0)):s.length<=4096:=by
 unfold Gs.format at h;split at h;·exact TK
 ·split at h;(·simp at h);·simp only[A3,F5]at h;subst h;omega
theorem r128_small {row:List Bool} {l:Lin} (hr:row.length<=65536) (h:r128 row=some l):Small l:=by
 unfold r128 at h;obtain⟨⟨cs,er⟩,hd⟩:∃r,r=Cc.dec row:=⟨_,rfl⟩;rw[<-hd]at h;unfold of128 at h;dsimp only at h;split at h;·cases h
 rename_i he;obtain rfl:er=0:=V7.1 he;have h1:=(Rn.widths_in row).2;have h2:=(Cc.dec_ge hd.symm).2;split at h;·split at h;(·cases h);split at h;(·cases h);rename_i h3 h4;injection h with h;subst h;obtain⟨⟨s,e3⟩,hf⟩:∃r,r=Gs.format (Gs.frChars cs).1:=⟨_,rfl⟩;rw[<-hf]at h4⊢;obtain rfl:e3=0:=V7.1 h4;have:=format_len hf.symm;refine⟨by dsimp only;omega,by dsimp only;omega,by dsimp only;omega,by simp⟩
 ·split at h;(·cases h);injection h with h;subst h;refine⟨by dsimp only;omega,by dsimp only;omega,by dsimp only;rw[N0];omega,by simp⟩
theorem reader_small {i:Nat} {row:List Bool} {l:Lin} (hr:row.length<=65536) (h:reader i row=some l):Small l:=by
 unfold reader at h;(repeat' split at h);·unfold rEan at h;split at h;(·rename_i h1;injection h with h;subst h;exact ean_small h1);·cases h
 ·exact r128_small hr h
 ·exact two_small C0 hr h
 ·exact two_small C0 hr h
 ·exact two_small C0 hr h
theorem zero_small:Small zero:=⟨by decide,by decide,by decide,by decide⟩
theorem found_small {row:List Bool} (hr:row.length<=65536):∀n,Small (found row n).2
 |0=>zero_small
 |n+1=>by
  unfold found
  cases h:reader n row with
  |none=>exact found_small hr n
  |some x=>exact reader_small hr h
theorem decode_small (row:List Bool):Small (decode row).1:=by
 unfold decode;split;·exact zero_small
 rename_i h1;split;·exact zero_small
 unfold outcome;split;·exact zero_small
 split;·exact zero_small
 exact found_small C0 5
theorem try_small {left right s:Int}:∀ {cs:List (List Int)} {l:Lin},tryGo left right s cs=some l->Small l
 | [],l,h=>by cases h
 |c::cs,l,h=>by unfold tryGo at h;split at h;(·injection h with h;subst h;exact decode_small _);·exact try_small h
theorem read_small (row:List Bool):Small (read row).1:=by
 unfold read
 split
 ·exact zero_small
 split
 ·exact zero_small
 cases h:readD row with
 |some x=>exact try_small h
 |none=>
  cases h2:readD row.reverse with
  |some x=>exact try_small h2
  |none=>exact zero_small
theorem good_small {rows:List (List Bool)}:∀l∈good rows,Small l:=by
 intro l hl;unfold good at hl;obtain⟨r,-,h⟩:=List.mem_filterMap.1 hl;split at h;·injection h with h;subst h;exact read_small r
 ·cases h
def ordGo (o:List Lin):List Lin->List Lin
 | []=>o
 |x::l=>ordGo (if x∈o then o else o++[x]) l
def ord (l:List Lin):List Lin:=ordGo [] l
theorem ord_snoc (l:List Lin) (x:Lin):ord (l++[x])=if x∈ord l then ord l else ord l++[x]:=by
 have h:∀(l o:List Lin),ordGo o (l++[x])=if x∈ordGo o l then ordGo o l else ordGo o l++[x]:=by
  intro l
  induction l with
  |nil=>intro o;rfl
  |cons y l ih=>intro o;exact ih _
 exact h l []
theorem ord_mem (l:List Lin) (x:Lin):x∈ord l↔x∈l:=by
 suffices h:∀(l o:List Lin),x∈ordGo o l↔x∈o∨x∈l by simpa[ord]using h l []
 intro l
 induction l with
 |nil=>intro o;simp[ordGo]
 |cons y l ih=>intro o;rw[ordGo,ih,U1];split;(·rename_i h;constructor;(·rintro(h1|h1);(·exact .inl h1);·exact .inr (.inr h1));·rintro(h1|h1|h1);(·exact .inl h1);(·subst h1;exact .inl h);·exact .inr h1);·rw[M2,Y2];constructor;(·rintro((h1|h1)|h1);(·exact .inl h1);(·exact .inr (.inl h1));·exact .inr (.inr h1));·rintro(h1|h1|h1);(·exact .inl (.inl h1));(·exact .inl (.inr h1));·exact .inr h1
theorem ord_len (l:List Lin):(ord l).length<=l.length:=by
 suffices h:∀(l o:List Lin),(ordGo o l).length<=o.length+l.length by simpa[ord]using h l []
 intro l
 induction l with
 |nil=>intro o;simp[ordGo]
 |cons y l ih=>intro o;rw[ordGo,S0];split;(·have:=ih o;omega);·have:=ih (o++[y]);rw[O0,YP]at this;omega
theorem best_ord (all:List Lin):∀(l o:List Lin) (p q:Lin×Nat),bestGo all p o=q->(∀x∈o,all.count x<=q.2)->bestGo all p (ordGo o l)=bestGo all q l
 | [],o,p,q,h,_=>h
 |y::l,o,p,q,h,hq=>by
  have hap:∀(o:List Lin) (p:Lin×Nat),bestGo all p (o++[y])=(if(bestGo all p o).2<all.count y then(y,all.count y)else bestGo all p o):=by
   intro o
   induction o with
   |nil=>intro p;rfl
   |cons z o ih=>intro p;exact ih _
  rw[ordGo,bestGo];split;(·rename_i hy;rw[D0 (by have:=hq y hy;omega)];exact best_ord all l o p q h hq);·refine best_ord all l (o++[y]) p _ (by rw[hap,h]) ?_;intro x hx;rw[M2,Y2]at hx;rcases hx with hx|rfl;(·have:=hq x hx;split<;>(try dsimp only)<;>omega);·split<;>(try dsimp only)<;>omega
theorem best_first (all l:List Lin):bestGo all (zero,0) (ord l)=bestGo all (zero,0) l:=best_ord all l [] _ _ rfl L0
end Ln
end
section
open Go.RowKit Go.Maps Go Go.WideMaps Go.ChangeMaps Go.ChangeMaps
theorem uO:KeyLaw prog 33:=deep_law_laid Cc.laid (m:=3) C0 (N3 M0) M0 (by rw[underlying33])
theorem NC:Keyed prog 33:=Keyed.of_law uO
theorem pI {k:Int} {s a:ByteArray} (hk:(Lit.int .i64 k).wf=true) (hs:s.size<=maxLen) (ha:a.size<=maxLen):∃l,keyOf prog 33 (.agg #[.int .i64 k,.string s,.string a])=some l:=by
 unfold keyOf;simp only[underlying33];have h1:prog.keyType 33=true:=Y0
 have h2:(Value.agg #[.int .i64 k,.string s,.string a]).formed prog 33=true:=Y0
 obtain⟨d,hd⟩:∃d,prog.types.size+1=d+1+1:=⟨prog.types.size-1,by kernel_rfl⟩;rw[h1,h2,hd];simp only[RN,R4];have hc:prog.cellsOf 33=3:=Y0
 have hi:prog.cellsOf 22=1:=Y0
 have hst:prog.cellsOf 9=1:=Y0
 have u1:prog.underlying 22=some (.int .i64):=Y0
 have u2:prog.underlying 9=some .string:=Y0
 have k1:prog.keyLits (d+1) 22 [.int .i64 k]=some [.int .i64 k]:=by unfold Program.keyLits;rw[u1];simp[hk]
 have k2:∀s:ByteArray,s.size<=maxLen->prog.keyLits (d+1) 9 [.string s]=some [.string s.data.toList]:=fun s hs=>by unfold Program.keyLits;rw[u2];simp[hs]
 have k3:=k2 s hs;have k4:=k2 a ha;have key:∃ls,prog.keyLits (d+1+1) 33 (Value.agg #[.int .i64 k,.string s,.string a]).cells.toList=some ls:=by generalize hd2:d+1=d2 at*;unfold Program.keyLits;simp only[underlying33,Value.cells];rw[G0 ⟨by rw[hc];rfl,by decide+kernel⟩];simp only[H9,List.mapM_nil];simp[hi,hst,k1,k3,k4]
 obtain⟨ls,hls⟩:=key;rw[hls];exact⟨_,rfl⟩
theorem pJ {w:World} {b:Nat} {o:Obj} (hb:w.heap[b]? =some o):setBlock w b o=w:=by
 have h:w.heap.setIfInBounds b o=w.heap:=by apply MB;intro i;by_cases hi:b=i;(·subst hi;rw[Array.getElem?_setIfInBounds_self_of_lt (F3.1 hb).1,hb]);·rw[FJ hi]
 unfold setBlock;rw[h]
theorem pK (w:World) (b:Nat) (o o':Obj):setBlock (setBlock w b o) b o'=setBlock w b o':=by unfold setBlock;simp
theorem pL (w:World) (b:Nat) (o:Obj):w.grownBy (setBlock w b o) (some b):=by refine⟨rfl,rfl,rfl,by simp[setBlock],fun k hk hne=> ?_⟩;have:b≠k:=fun e=>hne (by rw[e]);simp[setBlock,FJ this]
section
variable {P:Program} {w:World} {k e:TypeId} {T:TypeId} {α:Type} {key:α->Value}
theorem MapV.entry [DecidableEq α] {b n:Nat} {f:α->Option Int} (h:MapV P k key w b n f) (KL:KeyLaw P k) (ht:P.underlying T=some (.map k e)) (hz:∀u:World,(zeroValue e).run P u=.ok (.int .i64 0) u) {v:α} {l:Lit} (hv:keyOf P k (key v)=some l) (hn:n<maxLen) (hinj:∀a b:α,key a=key b->a=b):
 ∃(st:Nat) (w1:World),(Instr.mapEntry T (.map (some b)) (key v)).run P w=.ok (.tuple #[.int .i64 ((f v).getD 0),goInt st]) w1∧w.grownBy w1 (some b)∧
  (Instr.lookup T (.map (some b)) (key v) false).run P w1=.ok (.int .i64 ((f v).getD 0)) w1∧
  ∀m:Int,∃w3,(Instr.entryStore T (.map (some b)) (goInt st) (.int .i64 m)).run P w1=.ok () w3∧MapV P k key w3 b (n+1) (fun x=>if x=v then some m else f x)∧w.grownBy w3 (some b):=by
 have K:Keyed P k:=Keyed.of_law KL
 have hget:=h.get1 (T:=T) (e:=e) K ht (hz w) hv
 have hput:=fun m=>h.put (T:=T) (e:=e) K ht hv m hn hinj
 obtain⟨D,ho,hat⟩:=h
 obtain⟨es,clock,hb,F,hsz,hD⟩:=ho
 obtain⟨v0,st,es1,clock1,hrun,_,hst⟩:=WideElems.entry_then_store KL ht hz hb F hv
 obtain⟨c,hc⟩:∃c,c=(f v).getD 0:=⟨_,rfl⟩
 rw[<-hc]at hget⊢
 have hbl:b<w.heap.size:=(F3.1 hb).1
 have key1:v0=.int .i64 c∧(Instr.lookup T (.map (some b)) (key v) false).run P (setBlock w b (.map es1 clock1))=.ok (.int .i64 c) (setBlock w b (.map es1 clock1)):=by rcases K.find w hv es.toList F.keys with⟨h1,h2⟩|⟨j,e0,h1,h2,h3⟩;(·have hr:(Instr.mapEntry T (.map (some b)) (key v)).run P w=.ok (.tuple #[.int .i64 0,goInt clock]) (setBlock w b (.map (es.push ⟨key v,.int .i64 0,clock⟩) (clock+1))):=(by simp[Instr.mapEntry,YK ht,TT hb,K.check w false hv,h1,hz,FW _ hb,Result.andThen,setBlock]);have hu:(Instr.mapUpdate T (.map (some b)) (key v) (.int .i64 0)).run P w=.ok () (setBlock w b (.map (es.push ⟨key v,.int .i64 0,clock⟩) (clock+1))):=(by simp[Instr.mapUpdate,YK ht,TT hb,K.check w false hv,h1,FW _ hb,Result.andThen,setBlock]);have hl:(Instr.lookup T (.map (some b)) (key v) false).run P w=.ok (.int .i64 0) w:=(by simp[Instr.lookup,YK ht,TT hb,K.check w es.isEmpty hv,h1,hz,Result.andThen]);rw[hl]at hget;injection hget with hget;injection hget with _ hc0;rw[hr]at hrun;injection hrun with hr1 hr2;injection hr1 with hr1;obtain⟨w',hp1,hp2,_⟩:=hput 0;rw[hu]at hp1;injection hp1 with _ hp1;rw[<-hr2];subst hp1;have hg:=hp2.get1 (T:=T) (e:=e) K ht (hz _) hv;(try dsimp only at hg);rw[G0 rfl]at hg;refine⟨?_,by rw[hg,<-hc0];rfl⟩;have:=R0 (fun l:Array Value=>l[0]?) hr1;simp at this;rw[<-this,hc0]);·have hj:es[j]? =some e0:=F4;have hs:es.modify j (fun e=> {e with key:=key v})=es:=(by apply MB;intro i;rw[UI];split;(·rename_i hij;subst hij;rw[hj,H7,<-h3]);·rfl);have hr:(Instr.mapEntry T (.map (some b)) (key v)).run P w=.ok (.tuple #[e0.val,goInt e0.born]) (setBlock w b (.map es clock)):=(by simp[Instr.mapEntry,YK ht,TT hb,K.check w false hv,h1,hj,h3,K.stays w hv,hs,FW _ hb,Result.andThen,setBlock]);have hl:(Instr.lookup T (.map (some b)) (key v) false).run P w=.ok e0.val w:=(by simp[Instr.lookup,YK ht,TT hb,K.check w es.isEmpty hv,h1,Result.andThen]);rw[hl]at hget;injection hget with hget;rw[hr]at hrun;injection hrun with hr1 hr2;injection hr1 with hr1;have hw:setBlock w b (.map es clock)=w:=pJ hb;rw[<-hr2,hw];refine⟨?_,by rw[hl,hget]⟩;have:=R0 (fun l:Array Value=>l[0]?) hr1;simp at this;rw[<-this,hget]
 obtain⟨hv0,hlk⟩:=key1
 subst hv0
 refine⟨st,_,hrun,?_,hlk,fun m=> ?_⟩
 ·exact pL w b _
 ·obtain⟨es',clock',h1,h2⟩:=hst (setBlock w b (.map es1 clock1)) (.int .i64 m) (heap_setBlock_same hb _);obtain⟨w',hp1,hp2,hp3⟩:=hput m;rw[h2]at hp1;injection hp1 with _ hp1;have hss:setBlock (setBlock w b (.map es1 clock1)) b (.map es' clock')=setBlock w b (.map es' clock'):=pK w b _ _;rw[hss]at h1;subst hp1;exact⟨_,h1,hp2,hp3⟩
end
end
section
open Go.RowKit Go.Maps
abbrev Li:=Ln.Lin
def lnV (x:Li):Value:=.agg #[.int .i64 x.1,.string (Ea.bS x.2.1),.string (Ea.bS x.2.2)]
theorem pM:∀a b:Li,lnV a=lnV b->a=b:=by rintro⟨k,s,a⟩ ⟨j,t,b⟩ h;unfold lnV at h;simp only[Value.agg.injEq,Array.mk.injEq,UL,Value.int.injEq,Value.string.injEq,true_and,F5]at h;obtain⟨rfl,h2,h3⟩:=h;rw[Ea.bS_inj.1 h2,Ea.bS_inj.1 h3]
theorem pN {n:Int} (h1: -9223372036854775808<=n) (h2:n<=9223372036854775807):(Lit.int .i64 n).wf=true:=by show(decide (_<=n)&&decide (n<=_))=true;rw[F1 (show IntKind.min .i64<=n from h1),F1 (show n<=IntKind.max .i64 from h2)];rfl
theorem uP {x:Li} (h:Ln.Small x):∃l,keyOf prog 33 (lnV x)=some l:=
 pI (pN (by have:=h.1;omega) (by have:=h.2.1;omega)) (by rw[Zc (Ea.bS_list _)];have:=h.2.2.1;unfold maxLen;omega) (by rw[Zc (Ea.bS_list _)];have:=h.2.2.2;unfold maxLen;omega)
def liC (xs:List Li):List Value:=xs.flatMap fun x=>[.int .i64 x.1,.string (Ea.bS x.2.1),.string (Ea.bS x.2.2)]
theorem pO (xs:List Li) (x:Li):liC (xs++[x])=liC xs++[.int .i64 x.1,.string (Ea.bS x.2.1),.string (Ea.bS x.2.2)]:=by simp[liC]
theorem pP (xs:List Li):∀(i:Nat) (x:Li),xs[i]? =some x->(liC xs)[i*3]? =some (.int .i64 x.1)∧(liC xs)[i*3+1]? =some (.string (Ea.bS x.2.1))∧(liC xs)[i*3+2]? =some (.string (Ea.bS x.2.2)):=by
 induction xs with
 |nil=>intro i x h;simp at h
 |cons y ys ih=>
  intro i x h
  cases i with
  |zero=>simp only[E3,A2]at h;subst h;exact⟨rfl,rfl,rfl⟩
  |succ i=>rw[R3]at h;have:=ih i x h;have e1:(i+1)*3=i*3+1+1+1:=C0;rw[e1];simp only[liC,P5,P2,E4,R3]at this⊢;exact R2
def LOwn (w:World) (B:Nat) (v:Value) (xs:List Li):Prop:=w.ownsRow B 33 3 v xs.length (liC xs)
section
variable {w w':World} {B:Nat} {v:Value} {xs:List Li}
theorem LOwn.nil (w:World) (B:Nat):LOwn w B (.slice none 0 0) []:=VM _ _ _ _
theorem LOwn.ext (h:LOwn w B v xs) (hx:Ext w w'):LOwn w' B v xs:=by
 refine T8 h hx.asGrown ?_
 cases hv:v.ownBlock with
 |none=>exact .inl rfl
 |some k=>exact .inr L0
theorem LOwn.low (h:LOwn w B v xs):∀k,v.ownBlock=some k->B<=k:=fun k hk=>(J4 h k hk).1
theorem MapV.blk {P:Program} {k:TypeId} {α:Type} {key:α->Value} {w:World} {b n:Nat} {f:α->Option Int} (h:MapV P k key w b n f):∃es c,w.heap[b]? =some (.map es c):=by obtain⟨D,ho,-⟩:=h;obtain⟨es,clock,hb,-⟩:=ho;exact⟨es,clock,hb⟩
theorem LOwn.apart {P:Program} {k:TypeId} {α:Type} {key:α->Value} {b n:Nat} {f:α->Option Int} (h:LOwn w B v xs) (hm:MapV P k key w b n f):v.ownBlock≠some b:=by
 obtain⟨es,c,hb⟩:=hm.blk;rcases h.2 with⟨h1,_⟩|⟨g,cap,cur,h1,_,hg,_⟩;·rw[h1];simp[Value.ownBlock]
 ·rw[h1];intro e;simp only[Value.ownBlock,A2]at e;subst e;rw[hg]at hb;cases hb
theorem LOwn.kept {row:Option Nat} (h:LOwn w B v xs) (hg:w.grownBy w' row) (hne:v.ownBlock=none∨v.ownBlock≠row):LOwn w' B v xs:=T8 h hg hne
theorem LOwn.form (h:LOwn w B v xs):(xs=[]∧v=.slice none 0 0)∨∃g c,v=.slice (some ⟨g,0,none⟩) xs.length c∧g<w.heap.size∧∀(i:Nat) (x:Li),xs[i]? =some x->w.cell? ⟨g,i*3,none⟩=some (.int .i64 x.1)∧w.cell? ⟨g,i*3+1,none⟩=some (.string (Ea.bS x.2.1))∧w.cell? ⟨g,i*3+2,none⟩=some (.string (Ea.bS x.2.2)):=by
 have hc:=h;rcases h.2 with⟨h1,h0⟩|⟨g,cap,cur,hv,hbase,hb,h1,h2,h3,h4⟩;·exact .inl ⟨V2 h0,h1⟩
 ·refine .inr ⟨g,cap,hv,(F3.1 hb).1,fun i x hi=> ?_⟩;unfold LOwn at hc;rw[hv]at hc;have hil:=(J1.1 hi).1;rw[hc.cellAt (i*3) C0,hc.cellAt (i*3+1) C0,hc.cellAt (i*3+2) C0];exact pP xs i x hi
end
theorem pQ:(prog.info? 33).map (fun i=>(i.zero,i.size,i.bytes))=some (some (.agg #[.int .i64 0,.string ⟨#[]⟩,.string ⟨#[]⟩]),3,40):=Y0
theorem pR {w:World} {ops:Array Oper} {rest:List Oper} {o:Oper} {a:Act} {Q:Exit->Act->World->Prop} (hgd:o.guard=none) (s x:Operand)
 (ho:o.op=.call {callee:=.builtin .append,args:= #[s,x],argTypes:= #[113,113]})
 (B:Nat) (v:Value) (xs:List Li) (hs:a.eval s=v) (hown:LOwn w B v xs) (b:Nat) (u:Li) (hx:a.eval x=.slice (some ⟨b,0,none⟩) 1 1)
 (hc:w.cell? ⟨b,0,none⟩=some (.int .i64 u.1)) (hc1:w.cell? ⟨b,1,none⟩=some (.string (Ea.bS u.2.1))) (hc2:w.cell? ⟨b,2,none⟩=some (.string (Ea.bS u.2.2))) (hn:xs.length<=999999999) (hB:B<=w.heap.size)
 (h:∀v' w',LOwn w' B v' (xs++[u])->w.grownBy w' v.ownBlock->wpList prog ops Q rest (a.put o.dst v') w'):wpList prog ops Q (o::rest) a w:=by
 obtain⟨i0,hi,hz0,hz1,hz2⟩:=C5 pQ
 refine VN _ hgd s x 113 ho B 33 i0 _ 3 40 underlying113 hi hz0 hz1 hz2 rfl J0 v xs.length (liC xs) hs hown ⟨b,0,none⟩ 1 1 [.int .i64 u.1,.string (Ea.bS u.2.1),.string (Ea.bS u.2.2)] hx rfl ?_ ?_ ?_ ?_ hB ?_
 ·intro j u' hj
  rw[VL]
  match j with
  |0=>simp only[E3,A2]at hj;subst hj;exact hc
  |1=>simp only[R3,E3,A2]at hj;subst hj;exact hc1
  |2=>simp only[R3,E3,A2]at hj;subst hj;exact hc2
  |j+3=>simp at hj
 ·intro u' hu;simp only[U1,L4,M4]at hu;rcases hu with rfl|rfl|rfl<;>rfl
 ·exact F7
 ·exact L3 (VQ 40 (show xs.length+1<=1000000000 by omega)) J0
 ·intro v' w' h1 h2 _;refine h v' w' ?_ h2;unfold LOwn;rw[O0,pO];exact h1
def WZ (w:World) (v:Value) (rows:List (List Bool)):Prop:=∃xs:List Value,SlK w v xs∧xs.length=rows.length∧∀(i:Nat) (x:Value) (r:List Bool),xs[i]? =some x->rows[i]? =some r->SlK w x (r.map encT)
theorem WZ.form {w:World} {v:Value} {rows:List (List Bool)} (h:WZ w v rows):∃a c,v=.slice a rows.length c:=by obtain⟨xs,⟨-,a,c,h1,-⟩,h2,-⟩:=h;exact⟨a,c,by rw[h1,h2]⟩
theorem WZ.at_ {w w':World} {a:Option Addr} {n c:Nat} {rows:List (List Bool)} (h:WZ w (.slice a n c) rows) (hx:Ext w w') {i:Nat} {r:List Bool} (hi:rows[i]? =some r):
 ∃b o x y z,a=some ⟨b,o,none⟩∧b<w.heap.size∧w'.cell? ⟨b,o+i,none⟩=some (.slice x y z)∧SlK w' (.slice x y z) (r.map encT):=by
 obtain⟨xs,⟨h1,-⟩,h2,h3⟩:=h
 have hil:=(J1.1 hi).1
 obtain⟨b,o,ha,hb,hc⟩:=h1.at_ (k:=i) C0
 have h4:=h3 i (xs[i]' C0) r (P0 _) hi
 obtain⟨h5,x,z,h6,h7⟩:=h4
 refine⟨b,o,x,_,z,ha,hb,?_,h6▸(SlK.ext ⟨h5,x,z,h6,h7⟩ hx)⟩
 rw[hx.cell (p:=⟨b,o+i,none⟩) hb,hc,h6]
end
end Go.Proofs.YtbngggoccndefaaGreatDoor
