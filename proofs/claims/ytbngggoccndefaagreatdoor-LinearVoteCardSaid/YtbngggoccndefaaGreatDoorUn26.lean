/-
  Laid.
-/
import Derived.Test.YtbngggoccndefaaGreatDoorUn30
import Derived.Test.YtbngggoccndefaaGreatDoorUn31
set_option maxHeartbeats 16000000
set_option maxRecDepth 100000
set_option linter.all false
namespace Go.Proofs.YtbngggoccndefaaGreatDoor
open Go.Proofs.Tryz
section
open Go.RowKit
theorem pY (w:World) (k:Int) (a b:ByteArray):(binOp .eql 33 (.agg #[.int .i64 k,.string a,.string b]) (.agg #[.int .i64 k,.string a,.string b])).run prog w=.ok (.bool true) w:=by rw[JA];simp only[beq_self_eq_true,Bool.and_self]
theorem law_read (v:Value) (m:List Bool) (w:World) (hv:SlK w v (m.map encT)) (hm:m.length<=9223372036854775807) (ht:ZY w):
 Calls prog 5 #[v] w fun e w'=>e=.returned (.bool true)∧Ext w w':=by
 have HT:=A0 ht
 have HAW:=A0 mL
 have HV:=A0 hv
 obtain⟨-,a,c,rfl,-⟩:=hv
 rw[J0]at HV⊢
 by_cases hl:3000<m.length
 ·have hlI:3000<(m.length:Int):=B0;clear hl HV;go_enter func5,ntmps5;exact sW
 have hlI:¬3000<(m.length:Int):=by omega
 have HD:=A0 (KX _ m w HV.out B0 HT.out)
 have HR:=A0 (fun w' (h:Ext w w')=>sT _ m w' (HV.out.ext h) B0)
 obtain⟨⟨⟨k,s,ad⟩,er⟩,hr⟩:∃r,r=Ln.read m:=⟨_,rfl⟩
 rw[<-hr]at HD HR
 unfold gotV linV at HD HR
 dsimp only at HD HR
 generalize Ea.bS s=S1 at*
 generalize Ea.bS ad=A1 at*
 generalize m.length=n at*
 have HSM:=A0 (fun w'=>pY w' k S1 A1)
 clear hr hl
 go_enter func5,ntmps5
 go_wp2_with fail
 refine HD.out.mono ?_
 rintro e w1 ⟨rfl,hx1⟩
 go_wp2_with fail
 have hx1a:=hx1.alloc (.cells #[.int .i64 k,.string S1,.string A1] 33)
 refine(HR.out _ hx1a).mono ?_
 rintro e w2 ⟨rfl,hx2⟩
 obtain⟨p0,p1,p2,p3,-,-,-,-⟩:=Zj (Ze (L2 w1 (.cells #[.int .i64 k,.string S1,.string A1] 33)) hx2)
 have hsm:=HSM.out
 have HX:=A0 ((hx1a.trans hx2).alloc (.cells #[.int .i64 k,.string S1,.string A1] 33))
 clear hx1 hx2 hx1a HD HR
 go_wp2_with fail
 refine(HAW.out _ (Z2 HT.out HX.out)).mono ?_
 rintro e w3 ⟨rfl,hx3⟩
 go_wp2
 go_ret
 exact⟨rfl,HX.out.trans hx3⟩
theorem TW {w w':World} {g:Nat} (h:w'.heap[g]? =w.heap[g]?) (i:Nat):w'.cell? ⟨g,i,none⟩=w.cell? ⟨g,i,none⟩:=by unfold World.cell?;rw[h]
theorem ZmI (a b:Li) (w:World):(binOp .eql 33 (lnV a) (lnV b)).run prog w=.ok (.bool (decide (a=b))) w:=by obtain⟨k,s,t⟩:=a;obtain⟨k',s',t'⟩:=b;unfold lnV;rw[JA,C2,C2,C2,C2,Ea.bS_list,Ea.bS_list,Ea.bS_list,Ea.bS_list];congr 2;rw[C4];simp[Prod.ext_iff]
theorem Zis {G:List Li} {k:Nat} {z y:Li} (h:G[k]? =some z):(G.take (k+1)).count y=(G.take k).count y+(if z=y then 1 else 0):=by
 rw[N6,h,List.count_append];by_cases e:z=y;·subst e;simp
 ·rw[C0 e];simp[e]
def BV (wl:World) (g:Option Addr) (b:Nat) (x:Li) (w:World):Prop:=
 w.heap[b]? =some (.cells #[.int .i64 x.1,.string (Ea.bS x.2.1),.string (Ea.bS x.2.2)] 33 (0,0))∧(∀q,g=some ⟨q,0,none⟩->w.heap[q]? =wl.heap[q]?)∧Ext wl w
theorem BV.drew {wl:World} {g:Option Addr} {b:Nat} {x:Li} {w:World} (h:BV wl g b x w):BV wl g b x w.drew:=⟨h.1,h.2.1,h.2.2.drew⟩
theorem Zlz (v:Value) (rows:List (List Bool)) (w:World) (hv:J6 w v rows) (hr:rows.length<=1000000) (hm:∀r∈rows,r.length<=1000000):
 Calls prog 27 #[v] w fun e w'=>e=.returned (JD (Ln.vote rows))∧Ext w w':=by
 have HV:=A0 hv
 have HM:=A0 hm
 have HD:=A0 (Ln.vote.eq_1 rows)
 generalize Ln.vote rows=res at*
 obtain⟨a,c,rfl⟩:=hv.form
 obtain⟨n,hn⟩:∃n,n=rows.length:=⟨_,rfl⟩
 rw[<-hn]at HV HD hr⊢
 have HN:=A0 hn
 clear hv hm hn
 by_cases h4:4096<n
 ·have h4I:4096<(n:Int):=B0;rw[D0 h4]at HD;clear h4;go_enter func27,ntmps27;go_wp2_with fail;refine E1 (ZO results27 rfl (L2 w _) rfl rfl) rfl ?_;exact TO
 have h4I:¬4096<(n:Int):=by omega
 rw[C0 h4]at HD
 have hn4:n<=4096:=by omega
 clear h4
 obtain⟨wz,hwz⟩:∃wz,wz=w.alloc (.cells #[.int .i64 0,.string ⟨#[]⟩,.string ⟨#[]⟩] 33):=⟨_,rfl⟩
 have HXZ:Hid (Ext w wz):=A0 (by rw[hwz];exact(Ext.refl w).alloc _)
 have HZ:=A0 hwz
 have HBZ:Hid (wz.heap[w.heap.size]? =some (.cells #[.int .i64 0,.string ⟨#[]⟩,.string ⟨#[]⟩] 33 (0,0))):=A0 (by rw[hwz];exact L2 _ _)
 clear hwz
 go_enter func27,ntmps27
 go_wp2_with fail
 rw[<-HZ.out]
 go_loopw [5,6] (fun u t wr=>∃i:Nat,i<=n∧t=.int .i64 (i:Int)∧Hid (LOwn wr wz.heap.size u (Ln.good (rows.take i)))∧Hid (Ext wz wr)) (fun _ t _=>n-(intOf t).toNat)
 case atStart=>exact⟨0,O0 _,rfl,A0 (LOwn.nil _ _),A0 (Ext.refl _)⟩
 case round=>
 obtain⟨i,hi,rfl,HO,HX⟩:=hrel
 by_cases hlt:i<n
 ·have hiI:(i:Int)<(n:Int):=B0;obtain⟨r,hri⟩:∃r,rows[i]? =some r:=⟨_,M0 J4⟩;have hlo:=HO.out;have hxr:=HX.out;obtain⟨b,o,x,y,z,ha,-,hc,hsl⟩:=HV.out.at_ (HXZ.out.trans hxr) hri;subst ha;have HRD:=A0 (sT _ r wr hsl (HM.out r (J1 hri)));have HGS:=A0 (Ln.good_snoc rows hri);obtain⟨⟨l,er⟩,hrd⟩:∃x,x=Ln.read r:=⟨_,rfl⟩;rw[<-hrd]at HRD HGS;dsimp only at HGS;clear hrd hri hsl HO HX;obtain⟨k,s,ad⟩:=l;unfold gotV linV at HRD;dsimp only at HRD;have hgl:(Ln.good (rows.take i)).length<=5000:=(by have:=Ln.good_le (rows.take i);exact NQ);obtain⟨G,hG⟩:∃G,G=Ln.good (rows.take i):=⟨_,rfl⟩;rw[<-hG]at hlo HGS hgl;clear hG;by_cases he:er=0;(·subst he;rw[D0 rfl]at HGS;go_wp2_with fail;refine HRD.out.mono ?_;rintro e w2 ⟨rfl,hx2⟩;have hxa:=hx2.alloc (.cells #[.int .i64 k,.string (Ea.bS s),.string (Ea.bS ad)] 33);have hxb:=hxa.alloc (.cells #[.int .i64 k,.string (Ea.bS s),.string (Ea.bS ad)] 33);have hlob:=hlo.ext hxb;go_wp2_with (at_builtin;refine lJ rfl _ _ rfl wz.heap.size _ G rfl hlob _ (k,s,ad) rfl ?c1 ?c2 ?c3 ?c4 ?c5 ?_);(case c4=>omega);(case c5=>have:=hxb.size;have:=hxr.size;omega);intro v3 w3 hown3 hg3;have HO3:Hid (LOwn w3 wz.heap.size v3 (Ln.good (rows.take (i+1)))):=A0 (by rw[HGS.out];exact hown3);have HX3:=A0 ((hxr.trans hxb).ofGrown hg3 (fun q hq=>hlob.low q hq));clear hown3 hg3 hlob hxa hxb hx2 hlo HGS;exact sX);·have hb:(er==0)=false:=N0.2 he;rw[C0 he,P3]at HGS;clear he;go_wp2_with fail;refine HRD.out.mono ?_;rintro e w2 ⟨rfl,hx2⟩;have hxa:=hx2.alloc (.cells #[.int .i64 k,.string (Ea.bS s),.string (Ea.bS ad)] 33);have HO3:Hid (LOwn (w2.alloc (.cells #[.int .i64 k,.string (Ea.bS s),.string (Ea.bS ad)] 33)) wz.heap.size u5 (Ln.good (rows.take (i+1)))):=A0 (by rw[HGS.out];exact hlo.ext hxa);have HX3:=A0 (hxr.trans hxa);clear hxa hx2 hlo HGS;exact sX
 obtain rfl:n=i:=by omega
 have hlo:=HO.out
 rw[X1 A6]at hlo
 have hgl:(Ln.good rows).length<=5000:=by have:=Ln.good_le rows;rw[<-HN.out]at this;omega
 obtain⟨G,hG⟩:∃G,G=Ln.good rows:=⟨_,rfl⟩
 rw[<-hG]at hlo HD hgl
 have HBR:=A0 (Ze HBZ.out HX.out)
 have HXR:=A0 (HXZ.out.trans HX.out)
 clear hi hlt hG HO HX HBZ
 obtain⟨g,cg,hform,hgb,hcells⟩:∃g cg,u5=.slice g G.length cg∧(∀q,g=some ⟨q,0,none⟩->q<wr.heap.size)∧∀(i:Nat) (x:Li),G[i]? =some x->∃b,g=some ⟨b,0,none⟩∧b<wr.heap.size∧wr.cell? ⟨b,i*3,none⟩=some (.int .i64 x.1)∧wr.cell? ⟨b,i*3+1,none⟩=some (.string (Ea.bS x.2.1))∧wr.cell? ⟨b,i*3+2,none⟩=some (.string (Ea.bS x.2.2)):=by rcases hlo.form with⟨hnil,h⟩|⟨g,cg,h,hg,hc⟩;(·exact⟨none,0,by rw[h,hnil];rfl,(fun q hq=>by cases hq),fun i x hx=>by rw[hnil]at hx;simp at hx⟩);·exact⟨_,cg,h,(fun q hq=>by injection hq with hq;injection hq with hq;subst hq;exact hg),fun i x hx=>⟨g,rfl,hg,hc i x hx⟩⟩
 subst hform
 obtain⟨ng,hng⟩:∃ng,ng=G.length:=⟨_,rfl⟩
 rw[<-hng]at hgl⊢
 have HNG:=A0 hng
 have HCL:=A0 hcells
 have HGB:=A0 hgb
 rename World=>wl
 have hbl:w.heap.size≠wl.heap.size:=by have h1:=(O3.1 HBR.out).1;omega
 clear hlo hcells hng hgb
 have HB0:Hid (BV wl g wl.heap.size Ln.zero (wl.alloc (.cells #[.int .i64 0,.string ⟨#[]⟩,.string ⟨#[]⟩] 33))):=A0 ⟨L2 _ _,fun q hq=>((Ext.refl wl).alloc _).block q (HGB.out q hq),(Ext.refl _).alloc _⟩
 go_wp2_with fail
 go_loopw [10,11] (fun m t wq=>∃(i:Nat) (x:Li) (c:Nat),i<=ng∧t=.int .i64 (i:Int)∧m=.int .i64 (c:Int)∧c<=5000∧Hid (Ln.bestGo G (Ln.zero,0) (G.take i)=(x,c))∧Hid (BV wl g wl.heap.size x wq)) (fun _ t _=>ng-(intOf t).toNat)
 case atStart=>exact⟨0,Ln.zero,0,O0 _,rfl,rfl,by omega,A0 rfl,HB0⟩
 case round=>
 clear HB0
 obtain⟨i,x,c,hi,rfl,rfl,hc5,HBG,HBV⟩:=hrel
 by_cases hlt:i<ng
 ·have hiI:(i:Int)<(ng:Int):=B0;obtain⟨y,hyi⟩:∃y,G[i]? =some y:=⟨_,M0 (by rw[<-HNG.out];exact hlt)⟩;have HSN:Hid (Ln.bestGo G (Ln.zero,0) (G.take (i+1))=if c<G.count y then(y,G.count y)else(x,c)):=A0 (by rw[N6,hyi];show Ln.bestGo G (Ln.zero,0) (G.take i++[y])=_;rw[Ln.best_snoc,HBG.out]);obtain⟨q,hq,hql,y0,y1,y2⟩:=HCL.out i y hyi;subst hq;clear hyi;go_wp2_with fail;go_loopw [12,13] (fun a t wp=>∃k d:Nat,k<=ng∧t=.int .i64 (k:Int)∧a=.int .i64 (d:Int)∧d<=k∧Hid (d=(G.take k).count y)∧Hid (BV wl (some ⟨q,0,none⟩) wl.heap.size x wp)) (fun _ t _=>ng-(intOf t).toNat);(case atStart=>exact⟨0,0,O0 _,rfl,rfl,K0 _,A0 L0,HBV⟩);case round=>clear HBV;obtain⟨k,d,hk,rfl,rfl,hdk,HDC,HBV⟩:=hrel;have hsame:=HBV.out.2.1 q rfl;have e0:=(TW hsame (i*3)).trans y0;have e1:=(TW hsame (i*3+1)).trans y1;have e2:=(TW hsame (i*3+2)).trans y2;by_cases hlk:k<ng;(·have hkI:(k:Int)<(ng:Int):=B0;obtain⟨z,hzk⟩:∃z,G[k]? =some z:=⟨_,M0 (by rw[<-HNG.out];exact hlk)⟩;obtain⟨q',hq',-,z0,z1,z2⟩:=HCL.out k z hzk;injection hq' with hq';injection hq' with hq';subst hq';have d0:=(TW hsame (k*3)).trans z0;have d1:=(TW hsame (k*3+1)).trans z1;have d2:=(TW hsame (k*3+2)).trans z2;have HCN:=A0 (Zis (y:=y) hzk);have hcmp:=ZmI z y;unfold lnV at hcmp;have HB9:=A0 HBV.out.drew;clear hsame hzk z0 z1 z2;by_cases e:z=y;(·have HD9:Hid (d+1=(G.take (k+1)).count y):=A0 (by rw[HCN.out,D0 e,<-HDC.out]);(have hcm:∀w',(binOp .eql 33 (.agg #[.int .i64 z.1,.string (Ea.bS z.2.1),.string (Ea.bS z.2.2)]) (.agg #[.int .i64 y.1,.string (Ea.bS y.2.1),.string (Ea.bS y.2.2)])).run prog w'=.ok (.bool true) w':=fun w'=>by rw[hcmp w',V0 e]);clear e hcmp HCN;go_wp2_with fail;go_region;go_wp2_with fail;go_roundw;(case rel=>exact⟨k+1,d+1,by omega,by go_num,by go_num,by omega,HD9,HB9⟩);case measure=>exact C1);·have HD9:Hid (d=(G.take (k+1)).count y):=A0 (by rw[HCN.out,C0 e,<-HDC.out];rfl);(have hcm:∀w',(binOp .eql 33 (.agg #[.int .i64 z.1,.string (Ea.bS z.2.1),.string (Ea.bS z.2.2)]) (.agg #[.int .i64 y.1,.string (Ea.bS y.2.1),.string (Ea.bS y.2.2)])).run prog w'=.ok (.bool false) w':=fun w'=>by rw[hcmp w',X0 e]);clear e hcmp HCN;go_wp2_with fail;go_region;go_wp2_with fail;go_roundw;(case rel=>exact⟨k+1,d,by omega,by go_num,rfl,by omega,HD9,HB9⟩);case measure=>exact C1);·obtain rfl:k=ng:=B0;have hdc:=HDC.out;rw[X1 (by rw[<-HNG.out];exact K0 _)]at hdc;have hs:=HSN.out;rw[<-hdc]at hs;obtain⟨f0,f1,f2,f3,f4,f5,f6,f7⟩:=Zj HBV.out.1;have hqb:wl.heap.size≠q:=B0;have HBX:=A0 HBV.out;clear hdc hlk HDC HSN hsame HBV;by_cases hcd:c<d;(·have hcI:(c:Int)<(d:Int):=B0;rw[D0 hcd]at hs;have HS:=A0 hs;clear hs hcd;go_wp2_with fail;go_roundw;(case rel=>exact⟨i+1,y,d,by omega,by go_num,rfl,by omega,HS,A0 ⟨Zk f7,fun p hp=>by injection hp with hp;injection hp with hp;subst hp;exact Zs hqb (Zs hqb (Zs hqb (HBX.out.2.1 _ rfl))),Zo HBX.out.2.2 (K0 _) _ _ _⟩⟩);case measure=>exact C1);·have hcI:¬(c:Int)<(d:Int):=B0;rw[C0 hcd]at hs;have HS:=A0 hs;clear hs hcd;go_wp2_with fail;go_roundw;(case rel=>exact⟨i+1,x,c,by omega,by go_num,rfl,hc5,HS,HBX⟩);case measure=>exact C1
 obtain rfl:i=ng:=by omega
 have hbg:=HBG.out
 rw[X1 (by rw[<-HNG.out];exact K0 _)]at hbg
 rw[hbg]at HD
 dsimp only at HD
 obtain⟨b0,b1,b2,b3,b4,b5,b6,b7⟩:=Zj HBV.out.1
 obtain⟨f0,f1,f2,f3,f4,f5,f6,f7⟩:=Zj (Ze HBR.out HBV.out.2.2)
 have HXF:=A0 (HXR.out.trans HBV.out.2.2)
 clear hbg hlt HBG HBV
 by_cases hc0:c=0
 ·subst hc0;rw[D0 rfl]at HD;exact sY
 ·rw[C0 hc0]at HD;have zc:((c:Int)==0)=false:=N0.2 B0;clear hc0;exact sY
theorem ZjB:(prog.info? 26).map (fun i=>(i.zero,i.size,i.bytes))=some (some (.slice none 0 0),1,24):=B1
theorem ZgX {w:World} {ops:Array Oper} {rest:List Oper} {o:Oper} {a:Act} {Q:Exit->Act->World->Prop} (hgd:o.guard=none) (s x:Operand)
 (ho:o.op=.call {callee:=.builtin .append,args:= #[s,x],argTypes:= #[53,53]})
 (B:Nat) (v:Value) (xs:List Value) (hs:a.eval s=v) (hown:Own 26 w B v xs) (b:Nat) (u:Value) (hx:a.eval x=.slice (some ⟨b,0,none⟩) 1 1)
 (hc:w.cell? ⟨b,0,none⟩=some u) (h1:u.oneCell'=true) (hn:xs.length<=999999999) (hB:B<=w.heap.size)
 (h:∀v' w',Own 26 w' B v' (xs++[u])->w.grownBy w' v.ownBlock->wpList prog ops Q rest (a.put o.dst v') w'):wpList prog ops Q (o::rest) a w:=by
 obtain⟨i0,hi,hz0,hz1,hz2⟩:=V5 ZjB
 refine VG _ hgd s x 53 ho B 26 i0 _ 1 24 underlying53 hi hz0 hz1 hz2 rfl I0 v xs.length xs hs hown ⟨b,0,none⟩ 1 1 [u] hx rfl ?_ ?_ ?_ ?_ hB ?_
 ·intro j u' hj
  rw[VF]
  match j with
  |0=>simp only[B3,I2]at hj;subst hj;exact hc
  |j+1=>simp at hj
 ·exact sD
 ·exact V7
 ·exact sE
 ·exact sF
def VB (w:World) (rows:List (List Bool)) (j:Nat) (u:Value) (wr:World):Prop:=
 ∃xs:List Value,Own 26 wr w.heap.size u xs∧xs.length=j∧(∀(i:Nat) (x:Value) (r:List Bool),xs[i]? =some x->rows.reverse[i]? =some r->SlK w x (r.map encT)∧r.length<=1500)∧Ext w wr
theorem VB.all {w wr:World} {rows:List (List Bool)} {u:Value} (h:VB w rows rows.length u wr):J6 wr u rows.reverse∧∀r∈rows,r.length<=1000000:=by obtain⟨xs,h1,h2,h3,h4⟩:=h;refine⟨⟨xs,h1.slk,by rw[h2,D4],fun i x r hx hr=>(h3 i x r hx hr).1.ext h4⟩,fun r hr=> ?_⟩;obtain⟨i,hi⟩:=NB (SR.2 hr);have hl:=(I1.1 hi).1;rw[D4]at hl;have:=(h3 i (xs[i]' B0) r (M0 _) hi).2;omega
theorem VB.push {w wr w5:World} {rows:List (List Bool)} {j:Nat} {u v' x:Value} {xs:List Value} {r:List Bool} (h1:Own 26 wr w.heap.size u xs) (h2:xs.length=j)
 (h3:∀(i:Nat) (x:Value) (r:List Bool),xs[i]? =some x->rows.reverse[i]? =some r->SlK w x (r.map encT)∧r.length<=1500) (hr:rows.reverse[j]? =some r) (hx:SlK w x (r.map encT)) (hl:r.length<=1500)
 (h5:Own 26 w5 w.heap.size v' (xs++[x])) (hg:wr.grownBy w5 u.ownBlock) (h4:Ext w wr):VB w rows (j+1) v' w5:=by
 refine⟨xs++[x],h5,by rw[T0,h2];rfl,?_,h4.ofGrown hg h1.low⟩
 intro i y s hy hs
 by_cases hi:i<xs.length
 ·rw[O7 hi]at hy;exact h3 i y s hy hs
 ·rw[M9 B0]at hy
  obtain⟨k,hk⟩:∃k,i-xs.length=k:=⟨_,rfl⟩
  rw[hk]at hy
  cases k with
  |zero=>simp only[B3,I2]at hy;subst hy;obtain rfl:i=j:=B0;rw[hr]at hs;cases hs;exact⟨hx,hl⟩
  |succ k=>simp at hy
theorem law_vote (v:Value) (rows:List (List Bool)) (w:World) (hv:J6 w v rows) (hr:rows.length<=9223372036854775807) (ht:ZY w):
 Calls prog 8 #[v] w fun e w'=>e=.returned (.bool true)∧Ext w w':=by
 have HT:=A0 ht
 have HAW:=A0 mL
 obtain⟨a,c,rfl⟩:=hv.form
 have HV:=A0 hv
 obtain⟨n,hn⟩:∃n,n=rows.length:=⟨_,rfl⟩
 rw[<-hn]at HV hr⊢
 have HN:=A0 hn
 clear hv hn ht
 by_cases hl:8<n
 ·have hlI:8<(n:Int):=B0;clear hl HV;go_enter func8,ntmps8;exact sW
 have hlI:¬8<(n:Int):=by omega
 have hn8:n<=8:=by omega
 clear hl hr
 go_enter func8,ntmps8
 go_wp2_with fail
 go_loopw [3,4] (fun u t wr=>∃(j:Nat) (q:Int),t=.int .i64 q∧-1<=q∧q<=8∧Hid (q+(j:Int)+1=(n:Int))∧Hid (VB w rows j u wr)) (fun _ t _=>(intOf t+1).toNat)
 case atStart=>exact⟨0,(n:Int)-1,rfl,by omega,by omega,A0 B0,A0 ⟨[],Own.nil _ _ _,rfl,fun i x r h=>by simp at h,Ext.refl _⟩⟩
 case round=>
 obtain⟨j,q,rfl,hq0,hq1,HQ,HB⟩:=hrel
 by_cases hq:0<=q
 ·obtain⟨i,rfl⟩:∃i:Nat,q=(i:Int):=⟨q.toNat,by omega⟩;have hij:i+j+1=rows.length:=(by have:=HQ.out;rw[<-HN.out];omega);obtain⟨r,hri⟩:∃r,rows[i]? =some r:=⟨_,M0 B0⟩;have hrv:rows.reverse[j]? =some r:=(by rw[YZ B0,show rows.length-1-j=i by omega];exact hri);obtain⟨xs,h1,h2,h3,h4⟩:=HB.out;obtain⟨b,o,x,y,z,ha,hbw,hc,hsl⟩:=HV.out.at_ (Ext.refl w) hri;subst ha;obtain⟨a9,c9,h9⟩:=hsl.1.form;injection h9 with h9a h9 h9c;rw[J0]at h9;subst h9 h9a h9c;have hcw:wr.cell? ⟨b,o+i,none⟩=some (.slice x r.length z):=(by rw[h4.cell (p:=⟨b,o+i,none⟩) hbw];exact hc);have hiI:(i:Int)<(n:Int):=M7;have hxl:xs.length<=8:=M7;have HRV:=A0 hrv;have HSL:=A0 hsl;have H3:=A0 h3;have hsz:=h4.size;clear hri hrv hsl h3 hij HB hc;by_cases hlong:1500<r.length;(·have hlI2:1500<(r.length:Int):=B0;clear hlong;go_wp2_with fail;refine(HAW.out _ (Z2 HT.out h4)).mono ?_;rintro e w1 ⟨rfl,hx1⟩;go_wp2;go_ret;exact⟨rfl,h4.trans hx1⟩);have hlI2:¬1500<(r.length:Int):=B0;have hl15:r.length<=1500:=B0;clear hlong;go_wp2_with (at_builtin;refine ZgX rfl _ _ rfl w.heap.size _ xs rfl (h1.alloc _) _ (.slice x r.length z) rfl ?c1 rfl ?c2 ?c3 ?_);(try(case c1=>simp[go_sem]));(case c2=>omega);(case c3=>exact Y2);intro v' w5 hown5 hg5;have HB5:Hid (VB w rows (j+1) v' w5):=A0 (VB.push (h1.alloc _) h2 H3.out HRV.out HSL.out hl15 hown5 hg5 (h4.alloc _));clear hown5 hg5 h1 h2 h4 hsz;go_wp2_with fail;go_roundw;(case rel=>exact⟨j+1,(i:Int)-1,rfl,by omega,by omega,A0 (by have:=HQ.out;omega),HB5⟩);case measure=>exact C1
 obtain rfl:q= -1:=by omega
 have hj:j=rows.length:=by have:=HQ.out;rw[<-HN.out];omega
 subst hj
 obtain⟨hrs,hml⟩:=HB.out.all
 obtain⟨xs,-,-,-,hxr⟩:=HB.out
 have HRS:=A0 hrs
 have HXR:=A0 hxr
 have HVA:=A0 (qG _ rows wr (HV.out.ext hxr) G5 hml (Z2 HT.out hxr))
 have HVB:=A0 (fun w' (h:Ext w w')=>Zlz _ rows w' (HV.out.ext h) G5 hml)
 have HVC:=A0 (fun w' (h:Ext wr w')=>qG _ rows.reverse w' (HRS.out.ext h) (by rw[D4,<-HN.out];omega) (fun r hr=>hml r (SR.1 hr)) (Z2 HT.out (hxr.trans h)))
 have hrev:=Ln.vote_rev rows
 have hle:=Ln.vote_le rows
 rw[<-HN.out]at hle
 obtain⟨⟨⟨k,s,ad⟩,nn,ee⟩,hr⟩:∃r,r=Ln.vote rows:=⟨_,rfl⟩
 obtain⟨⟨⟨k2,s2,ad2⟩,nn2,ee2⟩,hr2⟩:∃r,r=Ln.vote rows.reverse:=⟨_,rfl⟩
 rw[<-hr]at HVA HVB hrev hle
 rw[<-hr2]at HVC hrev
 dsimp only at hrev hle
 injection hrev with e1 e2
 subst e1 e2
 unfold JD lnV at HVA HVB HVC
 dsimp only at HVA HVB HVC
 generalize Ea.bS s=S1 at*
 generalize Ea.bS ad=A1 at*
 generalize Ea.bS s2=S2 at*
 generalize Ea.bS ad2=A2 at*
 have HSM:=A0 (fun w'=>pY w' k S1 A1)
 clear hr hr2 hrs hml hxr HB HQ hq hq0 hq1
 go_wp2_with fail
 refine HVA.out.mono ?_
 rintro e w1 ⟨rfl,hx1⟩
 go_wp2_with fail
 have hx1a:=hx1.alloc (.cells #[.int .i64 k,.string S1,.string A1] 33)
 refine(HVB.out _ (HXR.out.trans hx1a)).mono ?_
 rintro e w2 ⟨rfl,hx2⟩
 go_wp2_with fail
 have hx2a:=hx2.alloc (.cells #[.int .i64 k,.string S1,.string A1] 33)
 refine(HVC.out _ (hx1a.trans hx2a)).mono ?_
 rintro e w3 ⟨rfl,hx3⟩
 have HA1:=A0 (Ze (Ze (L2 w1 (.cells #[.int .i64 k,.string S1,.string A1] 33)) hx2a) hx3)
 have HA2:=A0 (Ze (L2 w2 (.cells #[.int .i64 k,.string S1,.string A1] 33)) hx3)
 have HX:=A0 (HXR.out.trans ((hx1a.trans hx2a).trans (hx3.alloc (.cells #[.int .i64 k2,.string S2,.string A2] 33))))
 have HB1:=A0 (Ze HA1.out ((Ext.refl w3).alloc (.cells #[.int .i64 k2,.string S2,.string A2] 33)))
 have HB2:=A0 (Ze HA2.out ((Ext.refl w3).alloc (.cells #[.int .i64 k2,.string S2,.string A2] 33)))
 obtain⟨p0,p1,p2,p3,-,-,-,-⟩:=Zj HB1.out
 obtain⟨q0,q1,q2,q3,-,-,-,-⟩:=Zj HB2.out
 have hsm:=HSM.out
 clear hx1 hx2 hx3 hx1a hx2a HVA HVB HVC HA1 HA2
 go_wp2_with fail
 refine(HAW.out _ (Z2 HT.out HX.out)).mono ?_
 rintro e w4 ⟨rfl,hx4⟩
 go_wp2
 go_ret
 exact⟨rfl,HX.out.trans hx4⟩
end
end Go.Proofs.YtbngggoccndefaaGreatDoor
