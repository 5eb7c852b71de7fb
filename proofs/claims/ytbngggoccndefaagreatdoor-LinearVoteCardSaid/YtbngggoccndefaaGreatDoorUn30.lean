/-
  Laid.
-/
import Derived.Test.YtbngggoccndefaaGreatDoorUn14
import Derived.Test.YtbngggoccndefaaGreatDoorUn25
set_option maxHeartbeats 16000000
set_option maxRecDepth 100000
set_option linter.all false
namespace Go.Proofs.YtbngggoccndefaaGreatDoor
open Go.Proofs.Tryz
section
open Go.RowKit Go.Maps
def JD (r:Li×Int×Int):Value:=.tuple #[lnV r.1,.int .i64 r.2.1,.int .i64 r.2.2]
namespace Ln
def cnt (l:List Lin):Lin->Option Int:=fun x=>if x∈l then some (l.count x:Int)else none
theorem cnt_get (l:List Lin) (x:Lin):(cnt l x).getD 0=(l.count x:Int):=by
 unfold cnt;split;·rfl
 ·rename_i h;rw[qE h];rfl
theorem cnt_nil:cnt []=fun _=>none:=by funext x;simp[cnt]
theorem cnt_snoc (l:List Lin) (x:Lin) {m:Int} (hm:m=(l.count x:Int)+1):(fun y=>if y=x then some m else cnt l y)=cnt (l++[x]):=by
 funext y;unfold cnt;simp only[List.count_append,B5,U3];by_cases h:y=x;·subst h;rw[D0 rfl,D0 (.inr rfl),hm];simp
 ·rw[C0 h];have:List.count y [x]=0:=qE M5;rw[this];by_cases h2:y∈l;(·rw[D0 h2,D0 (.inl h2)];rfl);·rw[C0 h2,C0 (by rintro(h3|h3);exact h2 h3;exact h h3)]
theorem good_snoc (rows:List (List Bool)) {i:Nat} {r:List Bool} (h:rows[i]? =some r):good (rows.take (i+1))=good (rows.take i)++(if(read r).2=0 then [(read r).1]else []):=by unfold good;rw[N6,h,List.filterMap_append];congr 1;simp only[Option.toList,List.filterMap_cons,List.filterMap_nil];split<;>simp_all
theorem best_snoc (all:List Lin) (l:List Lin) (p:Lin×Nat) (x:Lin):bestGo all p (l++[x])=(if(bestGo all p l).2<all.count x then(x,all.count x)else bestGo all p l):=by
 induction l generalizing p with
 |nil=>rfl
 |cons z l ih=>exact ih _
theorem best_head (all:List Lin) {x:Lin} {l:List Lin} (h:x∈all):bestGo all (x,all.count x) (x::l)=bestGo all (zero,0) (x::l):=by have:=qF.2 h;rw[bestGo,bestGo,C0 (by dsimp only;omega),D0 (by dsimp only;omega)]
end Ln
theorem PU (w:World):(zeroValue 3).run prog w=.ok (.int .i64 0) w:=B1
theorem mJ {W:World} {mb c0:Nat} {G:List Li} {x:Li} {kl:Lit} (h:MapV prog 33 lnV W mb c0 (Ln.cnt G)) (hk:keyOf prog 33 (lnV x)=some kl) (hc:c0<=1000000):
 ∃(st:Nat) (w1 w3:World),(Instr.mapEntry 112 (.map (some mb)) (lnV x)).run prog W.drew=.ok (.tuple #[.int .i64 (G.count x:Int),.int .i64 (st:Int)]) w1∧
  (Instr.lookup 112 (.map (some mb)) (lnV x) false).run prog W=.ok (.int .i64 (G.count x:Int)) W∧
  (Instr.lookup 112 (.map (some mb)) (lnV x) false).run prog W.drew=.ok (.int .i64 (G.count x:Int)) W.drew∧
  (Instr.lookup 112 (.map (some mb)) (lnV x) false).run prog w1=.ok (.int .i64 (G.count x:Int)) w1∧
  (Instr.entryStore 112 (.map (some mb)) (.int .i64 (st:Int)) (.int .i64 ((G.count x:Int)+1))).run prog w1=.ok () w3∧
  MapV prog 33 lnV w3 mb (c0+1) (Ln.cnt (G++[x]))∧W.grownBy w3 (some mb):=by
 have h2:MapV prog 33 lnV W.drew mb c0 (Ln.cnt G):=h
 obtain⟨st,w1,e1,e2,e3,e4⟩:=h2.entry (T:=112) lH underlying112 PU hk U4 ZmJ
 obtain⟨w3,e5,e6,e7⟩:=e4 ((G.count x:Int)+1)
 have e8:=h.get1 (T:=112) KY underlying112 (PU W) hk
 have e9:=h2.get1 (T:=112) KY underlying112 (PU _) hk
 rw[Ln.cnt_get]at e1 e3 e8 e9
 refine⟨st,w1,w3,e1,e8,e9,e3,e5,?_,?_⟩
 ·rw[<-Ln.cnt_snoc G x rfl];exact e6
 ·exact⟨e7.os,e7.tape,e7.output,e7.size,e7.block⟩
def VS (wz:World) (rows:List (List Bool)) (v6:Value) (i:Nat) (wr:World):Prop:=
 LOwn wr (wz.heap.size+1) v6 (Ln.ord (Ln.good (rows.take i)))∧(∃n,n<=i∧MapV prog 33 lnV wr wz.heap.size n (Ln.cnt (Ln.good (rows.take i))))∧Ext wz wr
theorem qG (v:Value) (rows:List (List Bool)) (w:World) (hv:J6 w v rows) (hr:rows.length<=1000000) (hm:∀r∈rows,r.length<=1000000) (ht:ZY w):
 Calls prog 26 #[v] w fun e w'=>e=.returned (JD (Ln.vote rows))∧Ext w w':=by
 have HT:=A0 ht
 have HV:=A0 hv
 have HM:=A0 hm
 have HD:=A0 (Ln.vote.eq_1 rows)
 generalize Ln.vote rows=res at*
 obtain⟨a,c,rfl⟩:=hv.form
 obtain⟨n,hn⟩:∃n,n=rows.length:=⟨_,rfl⟩
 rw[<-hn]at HV HD hr⊢
 have HN:=A0 hn
 clear hv hm hn ht
 by_cases h4:4096<n
 ·have h4I:4096<(n:Int):=B0;rw[D0 h4]at HD;clear h4;go_enter func26,ntmps26;go_wp2_with fail;refine E1 (ZO results26 rfl (L2 w _) rfl rfl) rfl ?_;exact TO
 have h4I:¬4096<(n:Int):=by omega
 rw[C0 h4]at HD
 have hn4:n<=4096:=by omega
 clear h4
 obtain⟨wz,hwz⟩:∃wz,wz=w.alloc (.cells #[.int .i64 0,.string ⟨#[]⟩,.string ⟨#[]⟩] 33):=⟨_,rfl⟩
 have HXZ:Hid (Ext w wz):=A0 (by rw[hwz];exact(Ext.refl w).alloc _)
 have HZ:=A0 hwz
 have HBZ:Hid (wz.heap[w.heap.size]? =some (.cells #[.int .i64 0,.string ⟨#[]⟩,.string ⟨#[]⟩] 33 (0,0))):=A0 (by rw[hwz];exact L2 _ _)
 have hzs:wz.heap.size=w.heap.size+1:=by rw[hwz];simp
 have HZS:=A0 hzs
 clear hwz hzs
 have hmm:= @run_makeMap prog
 have hmade:=MapV.made (P:=prog) (k:=33) (key:=lnV) wz
 have HV0:Hid (VS wz rows (.slice none 0 0) 0 (wz.alloc (.map #[] 0))):=A0 ⟨LOwn.nil _ _,⟨0,K0 _,by rw[XV];show MapV _ _ _ _ _ _ (Ln.cnt []);rw[Ln.cnt_nil];exact hmade⟩,(Ext.refl wz).alloc _⟩
 clear hmade
 go_enter func26,ntmps26
 go_wp2_with fail
 rw[<-HZ.out,<-HZS.out]
 go_loopw [6,21] (fun u t wr=>∃i:Nat,i<=n∧t=.int .i64 (i:Int)∧Hid (VS wz rows u i wr)) (fun _ t _=>n-(intOf t).toNat)
 case atStart=>exact⟨0,O0 _,rfl,HV0⟩
 case round=>
 clear HV0 hmm
 obtain⟨i,hi,rfl,HS⟩:=hrel
 by_cases hlt:i<n
 ·have hiI:(i:Int)<(n:Int):=B0;obtain⟨r,hri⟩:∃r,rows[i]? =some r:=⟨_,M0 J4⟩;obtain⟨hlo,⟨c0,hc0,hmp⟩,hxr⟩:=HS.out;obtain⟨b,o,x,y,z,ha,-,hc,hsl⟩:=HV.out.at_ (HXZ.out.trans hxr) hri;subst ha;have HRD:=A0 (KX _ r wr hsl (HM.out r (J1 hri)) (Z2 HT.out (HXZ.out.trans hxr)));have HGS:=A0 (Ln.good_snoc rows hri);have hsm:=Ln.read_small r;obtain⟨⟨l,er⟩,hrd⟩:∃x,x=Ln.read r:=⟨_,rfl⟩;rw[<-hrd]at HRD HGS hsm;dsimp only at HGS hsm;clear hrd hri hsl HS;obtain⟨k,s,ad⟩:=l;unfold gotV linV at HRD;dsimp only at HRD;obtain⟨G,hG⟩:∃G,G=Ln.good (rows.take i):=⟨_,rfl⟩;rw[<-hG]at hlo hmp HGS;by_cases he:er=0;(·subst he;rw[D0 rfl]at HGS;obtain⟨kl,hkl⟩:=lI hsm;have hgl:(G.length:Int)<=5000:=(by rw[hG];have:=Ln.good_le (rows.take i);exact NQ);have hcl:=PI (a:=(k,s,ad)) (l:=G);obtain⟨C,hC⟩:∃C,C=G.count (k,s,ad):=⟨_,rfl⟩;by_cases hx:(k,s,ad)∈G;(·have hC1:=qF.2 hx;have hor:Ln.ord (G++[(k,s,ad)])=Ln.ord G:=(by rw[Ln.ord_snoc,D0 ((Ln.ord_mem _ _).2 hx)]);rw[<-hC]at hC1 hcl;have hz:((C:Int)==0)=false:=N0.2 B0;have HFIN:Hid (∀w' w3,Ext wr w'->w'.grownBy w3 (some wz.heap.size)->(∃n,n<=i+1∧MapV prog 33 lnV w3 wz.heap.size n (Ln.cnt (G++[(k,s,ad)])))->VS wz rows u6 (i+1) w3):=A0 (fun w' w3 h hg hmm=>by refine⟨?_,?_,(hxr.trans h).ofGrown hg (fun q hq=>by injection hq with hq;omega)⟩;(·rw[HGS.out,hor];exact(hlo.ext h).kept hg (.inr (hlo.apart hmp)));·rw[HGS.out];exact hmm);clear hor hx;go_wp2_with fail;refine HRD.out.mono ?_;rintro e w2 ⟨rfl,hx2⟩;have hxa:=hx2.alloc (.cells #[.int .i64 k,.string (Ea.bS s),.string (Ea.bS ad)] 33);obtain⟨st,w3,w4,f1,f2,f3,f4,f5,f6,f7⟩:=mJ (hmp.kept hxa.asGrown L0) hkl B0;unfold lnV at f1 f2 f3 f4;dsimp only at f1 f2 f3 f4;rw[<-hC]at f1 f2 f3 f4 f5;have HS3:=A0 (HFIN.out _ _ hxa f7 ⟨_,by omega,f6⟩);clear HFIN f6 f7 hmp hlo hxa hkl hC;go_wp2_with fail;go_region;exact qH);·have hC0:=qE hx;have hor:Ln.ord (G++[(k,s,ad)])=Ln.ord G++[(k,s,ad)]:=(by rw[Ln.ord_snoc,C0 (fun h=>hx ((Ln.ord_mem _ _).1 h))]);have hol:=Ln.ord_len G;rw[<-hC]at hC0;subst hC0;have HC:=A0 hC;clear hC hcl hG;have HFIN:Hid (∀v' w' w'' w3,Ext wr w'->LOwn w'' (wz.heap.size+1) v' (Ln.ord G++[(k,s,ad)])->Ext wz w''->w''.grownBy w3 (some wz.heap.size)->(∃kk c,w''.heap[wz.heap.size]? =some (.map kk c))->(∃n,n<=i+1∧MapV prog 33 lnV w3 wz.heap.size n (Ln.cnt (G++[(k,s,ad)])))->VS wz rows v' (i+1) w3):=A0 (fun v' w' w'' w3 h ho hxx hg hk hmm=>by refine⟨?_,?_,hxx.ofGrown hg (fun q hq=>by injection hq with hq;omega)⟩;(·rw[HGS.out,hor];refine ho.kept hg ?_;rcases ho.2 with⟨h1,_⟩|⟨g,cap,cur,h1,_,hg2,_⟩;(·exact .inl SN);·refine .inr (fun e=> ?_);rw[h1]at e;simp only[Value.ownBlock,I2]at e;subst e;obtain⟨kk,cc,hk⟩:=hk;rw[hg2]at hk;cases hk);·rw[HGS.out];exact hmm);clear hor hx;go_wp2_with fail;refine HRD.out.mono ?_;rintro e w2 ⟨rfl,hx2⟩;have hxa:=hx2.alloc (.cells #[.int .i64 k,.string (Ea.bS s),.string (Ea.bS ad)] 33);have hmpa:=hmp.kept hxa.asGrown L0;have g1:=hmpa.get1 (T:=112) KY underlying112 (PU _) hkl;rw[Ln.cnt_get,<-HC.out]at g1;have hxb:=hxa.alloc (.cells #[.int .i64 k,.string (Ea.bS s),.string (Ea.bS ad)] 33);have hlob:=hlo.ext hxb;have hmpb:=hmp.kept hxb.asGrown L0;have hzlt:=hmp.lt;unfold lnV at g1;dsimp only at g1;clear hmp hmpa;go_wp2_with (at_builtin;refine lJ rfl _ _ rfl (wz.heap.size+1) _ _ rfl hlob _ (k,s,ad) rfl ?c1 ?c2 ?c3 ?c4 ?c5 ?_);(case c4=>omega);(case c5=>have:=hxb.size;omega);intro v3 w3 hown3 hg3;have hmp3:=hmpb.kept hg3 (hlob.apart hmpb);obtain⟨st,w4,w5,f1,f2,f3,f4,f5,f6,f7⟩:=mJ hmp3 hkl B0;have hblk:w3.heap[w2.heap.size]? =some (.cells #[.int .i64 k,.string (Ea.bS s),.string (Ea.bS ad)] 33 (0,0)):=(by rw[hg3.block w2.heap.size N4 (fun e=>by have h1:=(U5 hlo _ e.symm).2;have h2:=hx2.size;omega)];exact Ze (L2 w2 _) ((Ext.refl _).alloc _));obtain⟨q0,q1,q2,q3,q4,q5,q6,q7⟩:=Zj hblk;unfold lnV at f1 f2 f3 f4;dsimp only at f1 f2 f3 f4;rw[<-HC.out]at f1 f2 f3 f4 f5;rw[show((0:Nat):Int)+1=1 from rfl]at f5;have HS3:=A0 (HFIN.out v3 _ w3 w5 hxb hown3 ((hxr.trans hxb).ofGrown hg3 (fun q hq=>by have:=hlob.low q hq;omega)) f7 hmp3.blk ⟨_,by omega,f6⟩);clear HFIN hmp3 hmpb hlob hlo f6 f7 hkl hblk q7 hg3 hown3;go_wp2_with fail;go_region;exact qH);·have hb:(er !=0)=true:=C3.2 he;rw[C0 he,P3]at HGS;clear he;have HS2:∀w',Ext wr w'->Hid (VS wz rows u6 (i+1) w'):=fun w' h=>A0 ⟨by rw[HGS.out];exact hlo.ext h,⟨c0,by omega,by rw[HGS.out];exact hmp.kept h.asGrown L0⟩,hxr.trans h⟩;clear hlo hmp hG;go_wp2_with fail;refine HRD.out.mono ?_;rintro e w2 ⟨rfl,hx2⟩;have HS3:=HS2 _ (hx2.alloc (.cells #[.int .i64 k,.string (Ea.bS s),.string (Ea.bS ad)] 33));clear HS2;exact qH
 obtain rfl:n=i:=by omega
 obtain⟨hlo,⟨c0,hc0,hmp⟩,hxr⟩:=HS.out
 rw[X1 A6]at hlo hmp
 obtain⟨G,hG⟩:∃G,G=Ln.good rows:=⟨_,rfl⟩
 have hsm:∀l∈G,Ln.Small l:=by rw[hG];exact Ln.good_small
 have hgl:G.length<=5000:=by rw[hG];have:=Ln.good_le rows;rw[<-HN.out]at this;omega
 rw[<-hG]at hlo hmp HD
 rw[<-Ln.best_first G G]at HD
 have hmem:=Ln.ord_mem G
 have hol:=Ln.ord_len G
 obtain⟨L,hL⟩:∃L,L=Ln.ord G:=⟨_,rfl⟩
 rw[<-hL]at hlo HD hmem hol
 have HBR:=A0 (Ze HBZ.out hxr)
 have HXR:=A0 (HXZ.out.trans hxr)
 obtain⟨f0,f1,f2,f3,f4,f5,f6,f7⟩:=Zj HBR.out
 clear hi hlt HS hG hL
 have key:L=[]->Hid (res=(Ln.zero,0,29)):=by rintro rfl;exact A0 HD.out
 rcases hlo.form with⟨hnil,rfl⟩|⟨g,cg,rfl,hg,hcells⟩
 ·have HF:=key hnil;clear HD key hlo hmp hmem hol;exact mK
 obtain⟨N,hN⟩:∃N,N=L.length:=⟨_,rfl⟩
 rw[<-hN]at hol⊢
 by_cases h0:N=0
 ·have HF:=key (L4 (hN▸h0));subst h0;clear HD key hlo hmp hmem hol hN;exact mK
 have hn0:(0:Int)<(N:Int):=by omega
 have hz:((N:Int)==0)=false:=N0.2 B0
 obtain⟨x0,hx0⟩:∃x,L[0]? =some x:=⟨_,M0 B0⟩
 have hx0m:x0∈G:=(hmem _).1 (J1 hx0)
 obtain⟨L',hL'⟩:∃L',L=x0::L':=by
  cases L with
  |nil=>simp at hx0
  |cons y L'=>simp only[B3,I2]at hx0;exact⟨L',by rw[hx0]⟩
 have HB0:Hid (Ln.bestGo G (x0,G.count x0) L=Ln.bestGo G (Ln.zero,0) L):=A0 (by rw[hL'];exact Ln.best_head G hx0m)
 obtain⟨d0,d1,d2⟩:=hcells 0 x0 hx0
 rw[Nat.zero_mul]at d0 d1 d2
 rw[T4]at d1 d2
 have HCE:=A0 hcells
 have HMP:=A0 hmp
 have HSM:=A0 hsm
 have HME:=A0 hmem
 have HN2:=A0 hN
 have HX0:=A0 hx0m
 clear hcells hmp hsm hmem hN hx0 hL' key hlo h0 hx0m hxr
 obtain⟨xk,xs,xa⟩:=x0
 dsimp only at d0 d1 d2
 go_wp2_with fail
 have HLK:Hid (∀(W:World) (l:Li),l∈G->GB (some w.heap.size) wr W->(Instr.lookup 112 (.map (some wz.heap.size)) (lnV l) false).run prog W=.ok (.int .i64 (G.count l:Int)) W):=A0 (fun W l hl hx=>by obtain⟨kl,hk⟩:=lI (HSM.out l hl);have:=(HMP.out.kept hx (fun e=>by injection e with e;have:=HZS.out;omega)).get1 (T:=112) KY underlying112 (PU W) hk;rw[Ln.cnt_get]at this;exact this)
 have HBN:Hid ((wr.alloc (.cells #[.int .i64 xk,.string (Ea.bS xs),.string (Ea.bS xa)] 33)).heap[wr.heap.size]? =some (.cells #[.int .i64 xk,.string (Ea.bS xs),.string (Ea.bS xa)] 33 (0,0))):=A0 (L2 _ _)
 clear d0 d1 d2 f1 f2 f3 f4 f5 f6 f7 hz hn0
 go_loopw [56] (fun t wq=>∃(j:Nat) (y:Li),j<=N∧t=.int .i64 (j:Int)∧Hid (y∈G)∧Hid (Ln.bestGo G ((xk,xs,xa),G.count (xk,xs,xa)) (L.take j)=(y,G.count y))∧Hid (wq.heap[wr.heap.size]? =some (.cells #[.int .i64 y.1,.string (Ea.bS y.2.1),.string (Ea.bS y.2.2)] 33 (0,0)))∧Hid (Ext wr wq)) (fun t _=>N-(intOf t).toNat)
 case atStart=>exact⟨0,(xk,xs,xa),O0 _,rfl,HX0,A0 rfl,HBN,A0 ((Ext.refl wr).alloc _)⟩
 case round=>
 clear HBN HX0
 obtain⟨j,y,hj,rfl,HY,HBG,HB,HX⟩:=hrel
 obtain⟨yk,ys,ya⟩:=y
 dsimp only at HB
 obtain⟨q0,q1,q2,q3,q4,q5,q6,q7⟩:=Zj HB.out
 by_cases hlt:j<N
 ·have hjI:(j:Int)<(N:Int):=B0;obtain⟨z,hzj⟩:∃z,L[j]? =some z:=⟨_,M0 (by rw[<-HN2.out];exact hlt)⟩;have hzm:=(HME.out z).1 (J1 hzj);obtain⟨e0,e1,e2⟩:=HCE.out j z hzj;have HBZ:=A0 (Ln.best_snoc G (L.take j) ((xk,xs,xa),G.count (xk,xs,xa)) z);have HTK:Hid (L.take (j+1)=L.take j++[z]):=A0 (by rw[N6,hzj];rfl);have HZM:=A0 hzm;obtain⟨zk,zs,za⟩:=z;dsimp only at e0 e1 e2;have hg2:=hg;have e0:=(HX.out.cell (p:=⟨g,j*3,none⟩) hg2).trans e0;have e1:=(HX.out.cell (p:=⟨g,j*3+1,none⟩) hg2).trans e1;have e2:=(HX.out.cell (p:=⟨g,j*3+2,none⟩) hg2).trans e2;have hxa:=HX.out.alloc (.cells #[.int .i64 zk,.string (Ea.bS zs),.string (Ea.bS za)] 33);have l1:=HLK.out _ _ hzm (GB.ext hxa.drew);have l2:=HLK.out _ _ HY.out (GB.ext hxa.drew);unfold lnV at l1 l2;dsimp only at l1 l2;rw[HBG.out]at HBZ;dsimp only at HBZ;have hcz:=PI (a:=(zk,zs,za)) (l:=G);have hcy:=PI (a:=(yk,ys,ya)) (l:=G);generalize hCZ:List.count (zk,zs,za) G=CZ at*;generalize hCY:List.count (yk,ys,ya) G=CY at*;have HCZ:=A0 hCZ;have HCY:=A0 hCY;have HXA:=A0 hxa;clear hzj hzm hxa hCZ hCY;by_cases hc:CY<CZ;(·have hcI:(CY:Int)<(CZ:Int):=B0;rw[D0 hc]at HBZ;clear hc;go_wp2_with fail;go_region;go_wp2_with fail;refine⟨⟨j+1,(zk,zs,za),by omega,by go_num,HZM,A0 (by rw[HTK.out,HBZ.out,HCZ.out]),A0 ?_,A0 ?_⟩,?_⟩;(·exact Ze (Zk q7) (((Ext.refl _).alloc _).drew));(·exact((Zo HX.out (K0 _) _ _ _).alloc _).drew);·(simp[intOf];try omega));·have hcI:¬(CY:Int)<(CZ:Int):=B0;rw[C0 hc]at HBZ;clear hc;go_wp2_with fail;go_region;go_wp2_with fail;refine⟨⟨j+1,(yk,ys,ya),by omega,by go_num,HY,A0 (by rw[HTK.out,HBZ.out,HCY.out]),A0 ?_,A0 ?_⟩,?_⟩;(·exact Ze q7.out (((Ext.refl _).alloc _).drew));(·exact HXA.out.drew);·(simp[intOf];try omega)
 obtain rfl:N=j:=by omega
 clear hj hlt
 have HBG2:=HBG.out
 rw[X1 (by rw[<-HN2.out];exact K0 _),HB0.out]at HBG2
 rw[HBG2]at HD
 dsimp only at HD
 have hcp:=qF.2 HY.out
 rw[C0 B0]at HD
 have hcy:=PI (a:=(yk,ys,ya)) (l:=G)
 have l1:=HLK.out _ _ HY.out (GB.ext HX.out.drew)
 have l2:=HLK.out _ _ HY.out (((((GB.ext HX.out).setRow 0 (.int .i64 yk)).setRow 1 (.string (Ea.bS ys))).setRow 2 (.string (Ea.bS ya))).drew)
 unfold lnV at l1 l2
 dsimp only at l1 l2
 generalize List.count (yk,ys,ya) G=CY at*
 obtain⟨f0,f1,f2,f3,f4,f5,f6,f7⟩:=Zj (Ze HBR.out HX.out)
 have HXF:=A0 (HXR.out.trans HX.out)
 clear HBG2 HBG
 go_wp2_with fail
 go_region
 go_wp2_with fail
 refine E1 (ZO results26 rfl (Ze (Zk f7) ((Ext.refl _).drew)) rfl rfl) rfl ?_
 rw[HD.out]
 exact⟨rfl,(Zo HXF.out (K0 _) _ _ _).drew⟩
end
section
open Go.RowKit
namespace Ln
def encEan (k:Int) (s a:List UInt8):List Bool×Int:=if(Ea.comp k s).2≠0 then([],(Ea.comp k s).2)else Ea.enc k (Ea.comp k s).1 a
def encFin (r:List Bool×Int):List Bool×Int:=if r.2≠0 then([],r.2)else if 65536<r.1.length then([],4)else r
theorem comp_len (k:Int) (l:List UInt8):(Ea.comp k l).1.length<=13:=by
 have h:Ea.size k<=13:=by unfold Ea.size;exact M8
 unfold Ea.comp;(repeat' split)<;>(try simp only[O4,T0,M1,YS])<;>omega
end Ln
theorem Zgo (k:Int) (s a:ByteArray) (hs:s.size<=9223372036854775806) (ha:a.size<=9223372036854775807) (w:World):
 Calls prog 28 #[.int .i64 k,.string s,.string a] w (UL (Ln.encEan k s.data.toList a.data.toList) w):=by
 have HC:=A0 (ZfG k s B0 w)
 have HX:=A0 (Ln.encEan.eq_1 k s.data.toList a.data.toList)
 have hcl:=Ln.comp_len k s.data.toList
 obtain⟨⟨l,er⟩,hc⟩:∃x,Ea.comp k s.data.toList=x:=⟨_,rfl⟩
 rw[hc]at HC HX hcl
 dsimp only at HX hcl
 have HE:=A0 (fun w=>Zhh k (Ea.bS l) a (by rw[Zf (Ea.bS_list l)];omega) ha w)
 rw[Ea.bS_list]at HE
 generalize Ln.encEan k s.data.toList a.data.toList=res at*
 unfold strE at HC
 dsimp only at HC
 clear hc hcl
 by_cases h0:er=0
 ·subst h0;rw[C0 I0]at HX;generalize Ea.enc k l a.data.toList=r2 at*;obtain⟨m,e2⟩:=r2;go_enter func28,ntmps28;go_wp2_with fail;refine HC.out.mono ?_;rintro e w1 ⟨rfl,hx1⟩;go_wp2_with fail;refine(HE.out w1).mono ?_;rintro e w2 ⟨v2,rfl,hv2,hx2⟩;go_wp2;go_ret2;exact⟨_,by rw[HX.out];rfl,by rw[HX.out];exact hv2,hx1.trans hx2⟩
 ·have hb:(er !=0)=true:=C3.2 h0;rw[D0 h0]at HX;clear h0 HE;go_enter func28,ntmps28;go_wp2_with fail;refine HC.out.mono ?_;rintro e w1 ⟨rfl,hx1⟩;go_wp2;go_ret2;exact⟨_,by rw[HX.out];rfl,by rw[HX.out];exact SlK.nil _,hx1⟩
theorem Zix (k:Int) (hk:k=1∨k=2∨k=3∨k=4) (s:ByteArray) (r:Int) (ck:Bool) (a:ByteArray) (hs:s.size<=9223372036854775806) (ha:a.size<=9223372036854775807) (w:World):
 Calls prog 10 #[.int .i64 k,.string s,.agg #[.int .i64 r,.bool ck,.string a]] w (UL (Ln.encFin (Ln.encEan k s.data.toList a.data.toList)) w):=by
 have HE:=A0 (fun w'=>Zgo k s a hs ha w')
 generalize Ln.encEan k s.data.toList a.data.toList=res at*
 obtain⟨m,er⟩:=res
 have HX:=A0 (Ln.encFin.eq_1 (m,er))
 dsimp only at HX
 generalize Ln.encFin (m,er)=out at*
 by_cases h0:er=0
 ·subst h0;rw[C0 I0]at HX;by_cases hl:65536<m.length;(·have hlI:65536<(m.length:Int):=B0;rw[D0 hl]at HX;clear hl;rcases hk with rfl|rfl|rfl|rfl;all_goals go_enter func10,ntmps10;go_wp2_with fail;refine(HE.out _).mono ?_;rintro e w1 ⟨v1,rfl,hv1,hx1⟩;obtain⟨-,a1,c1,rfl,-⟩:=hv1;rw[J0];go_wp2;go_ret2;exact⟨_,by rw[HX.out];rfl,by rw[HX.out];exact SlK.nil _,((Ext.refl w).alloc _).trans hx1⟩);·have hlI:¬65536<(m.length:Int):=B0;rw[C0 hl]at HX;clear hl;rcases hk with rfl|rfl|rfl|rfl;all_goals go_enter func10,ntmps10;go_wp2_with fail;refine(HE.out _).mono ?_;rintro e w1 ⟨v1,rfl,hv1,hx1⟩;have HV:=A0 hv1;obtain⟨-,a1,c1,rfl,-⟩:=hv1;dsimp only at HV;rw[J0]at HV⊢;go_wp2;go_ret2;exact⟨_,by rw[HX.out];rfl,by rw[HX.out];exact HV.out,((Ext.refl w).alloc _).trans hx1⟩
 ·have hb:(er !=0)=true:=C3.2 h0;rw[D0 h0]at HX;clear h0;rcases hk with rfl|rfl|rfl|rfl;all_goals go_enter func10,ntmps10;go_wp2_with fail;refine(HE.out _).mono ?_;rintro e w1 ⟨v1,rfl,hv1,hx1⟩;go_wp2;go_ret2;exact⟨_,by rw[HX.out];rfl,by rw[HX.out];exact SlK.nil _,((Ext.refl w).alloc _).trans hx1⟩
namespace Ln
def tri3 (b:Bool):List Bool:=[b,b,b]
theorem tri_eq (l:List Bool):tri l=l.reverse.flatMap tri3:=rfl
theorem tri_next {l:List Bool} {j i:Nat} {x:Bool} (hi:i+j+1=l.length) (h:l[i]? =some x):(l.reverse.take (j+1)).flatMap tri3=(l.reverse.take j).flatMap tri3++[x,x,x]:=by
 have:l.reverse[j]? =some x:=by rw[YZ B0,<-h];congr 1;omega
 rw[N6,this,VD];rfl
theorem tri_len (l:List Bool):(l.flatMap tri3).length=3*l.length:=by
 induction l with
 |nil=>rfl
 |cons x l ih=>rw[F8,T0,ih];simp[tri3];omega
theorem ex_fin:encFin (encEan 1 [53,57,48,49,50,51,52,49,50,51,52,53] [])=(exRow,0):=E2
end Ln
theorem Znx (w:World):Calls prog 10 #[.int .i64 1,.string ⟨#[53,57,48,49,50,51,52,49,50,51,52,53]⟩,.agg #[.int .i64 0,.bool false,.string ⟨#[]⟩]] w (UL (Ln.exRow,0) w):=by have h:=Zix 1 (.inl rfl) ⟨#[53,57,48,49,50,51,52,49,50,51,52,53]⟩ 0 false ⟨#[]⟩ I0 I0 w;rw[show Ln.encFin (Ln.encEan 1 (ByteArray.data ⟨#[53,57,48,49,50,51,52,49,50,51,52,53]⟩).toList (ByteArray.data ⟨#[]⟩).toList)=(Ln.exRow,0)from Ln.ex_fin]at h;exact h
theorem Zo0 (w:World) {T A:ByteArray} (hT:T=Ea.bS Ln.exT) (hA:A=Ea.bS []):(binOp .eql 33 (.agg #[.int .i64 1,.string T,.string A]) (.agg #[.int .i64 1,.string ⟨#[53,57,48,49,50,51,52,49,50,51,52,53,55]⟩,.string ⟨#[]⟩])).run prog w=.ok (.bool true) w:=by have e1:T=⟨#[53,57,48,49,50,51,52,49,50,51,52,53,55]⟩:=hT;have e2:A=⟨#[]⟩:=hA;rw[e1,e2,JA];simp only[beq_self_eq_true,Bool.and_self]
theorem Zl6 (g:Nat) (w:World) (hg:w.heap[g]? =some (.cells #[.bool false,.bool false] 4 (0,0))) (ht:ZY w):
 Calls prog 15 #[.slice (some ⟨g,0,none⟩) 2 2] w fun e w'=>e=.returned (.tuple #[.agg #[.int .i64 0,.string ⟨#[]⟩,.string ⟨#[]⟩],.int .i64 5])∧Ext w w':=by
 have h:Own 4 w 0 (.slice (some ⟨g,0,none⟩) 2 2) ([false,false].map encT):=EW hg rfl B0 (O0 _)
 have:=KX _ [false,false] w h.slk I0 ht
 rw[Ln.ex_two]at this
 exact this
theorem ZiQ (g:Nat) (w:World) (x y z:Value) (a b c:List Bool) (hg:w.heap[g]? =some (.cells #[x,y,z] 26 (0,0))) (hx:SlK w x (a.map encT)) (hy:SlK w y (b.map encT)) (hz:SlK w z (c.map encT)):
 J6 w (.slice (some ⟨g,0,none⟩) 3 3) [a,b,c]:=by
 have h:Own 26 w 0 (.slice (some ⟨g,0,none⟩) 3 3) [x,y,z]:=EW hg rfl B0 (O0 _)
 refine⟨[x,y,z],h.slk,rfl,fun i u r hi hr=> ?_⟩
 match i with
 |0=>simp at hi hr;subst hi hr;exact hx
 |1=>simp at hi hr;subst hi hr;exact hy
 |2=>simp at hi hr;subst hi hr;exact hz
 |i+3=>simp at hi
theorem mL (w:World) (ht:ZY w):Calls prog 9 #[] w fun e w'=>e=.returned (.bool true)∧Ext w w':=by
 have HT:=A0 ht;have HE:=A0 Znx;have HLQ:=A0 JA;obtain⟨m,hm⟩:∃m,m=Ln.exRow:=⟨_,rfl⟩;have hml:m.length=113:=by rw[hm];exact Ln.ex_len
 have HD:=A0 (show Ln.decode m=((1,Ln.exT,[]),0) by rw[hm];exact Ln.ex_dec);have HR:=A0 (show Ln.read (Ln.tri m)=((1,Ln.exT,[]),0) by rw[hm];exact Ln.ex_read3);have HV:=A0 (show Ln.vote [m,[],Ln.tri m]=((1,Ln.exT,[]),2,0) by rw[hm];exact Ln.ex_vote);rw[<-hm]at HE;have HML:=A0 hml;clear hm ht hml;go_enter func9,ntmps9;go_wp2_with fail;refine(HE.out _).mono ?_;rintro e w1 ⟨v1,rfl,hv1,hx1⟩;dsimp only at hv1⊢;have HV1:=A0 hv1;have HDC:=A0 (iD v1 m w1 hv1 (by rw[HML.out];decide) (Z2 HT.out hx1));rw[HD.out]at HDC;obtain⟨hsl,a1,c1,rfl,hcap⟩:=hv1;rw[J0,HML.out]at HV1 HDC hcap⊢;have hx0:∃x,m[0]? =some x:=⟨_,M0 (by rw[HML.out];decide)⟩;obtain⟨x0,hx0⟩:=hx0;have hsl0:=HV1.out.1;obtain⟨b,o,ha,hb,-⟩:=hsl0.bool_at (Ext.refl _) hx0;subst ha;unfold gotV linV at HDC;dsimp only at HDC;have HX1:=A0 hx1;clear hsl hsl0 hx0 hx1;go_wp2_with fail;refine HDC.out.mono ?_;rintro e w2 ⟨rfl,hx2⟩;have HX2:=A0 (HX1.out.trans hx2);have HV2:=A0 (HV1.out.ext hx2);obtain⟨T,hT⟩:∃T,T=Ea.bS Ln.exT:=⟨_,rfl⟩;obtain⟨A,hA⟩:∃A,A=Ea.bS []:=⟨_,rfl⟩;rw[<-hT,<-hA];have HEA:=A0 (And.intro hT hA);clear HDC hx2 hT hA;go_wp2_with fail;obtain⟨w3,hw3⟩:∃w3,w3=w2.alloc (.cells #[.int .i64 1,.string T,.string A] 33):=⟨_,rfl⟩;rw[<-hw3];have HX3:Hid (Ext w w3):=A0 (by rw[hw3];exact HX2.out.alloc _);have HB3:Hid (w3.heap[w2.heap.size]? =some (.cells #[.int .i64 1,.string T,.string A] 33 (0,0))):=A0 (by rw[hw3];exact L2 _ _);have HV3:Hid (SlK w3 (.slice (some ⟨b,o,none⟩) 113 c1) (m.map encT)):=A0 (by rw[hw3];exact HV2.out.ext ((Ext.refl _).alloc _));clear hw3 HX2 HV1 HV2 HX1 hb;go_loopw [5,6] (fun u t wr=>∃(j:Nat) (q:Int),t=.int .i64 q∧-1<=q∧q<=112∧Hid (q+(j:Int)=112)∧Hid (Own 4 wr w3.heap.size u (((m.reverse.take j).flatMap Ln.tri3).map encT))∧Hid (Ext w3 wr)) (fun _ t _=>(intOf t+1).toNat);case atStart=>exact⟨0,112,rfl,by omega,by omega,A0 B0,A0 (Own.nil _ _ _),A0 (Ext.refl _)⟩
 case round=>
 obtain⟨j,q,rfl,hq0,hq1,HQ,HO,HX⟩:=hrel;by_cases hq:0<=q
 ·obtain⟨i,rfl⟩:∃i:Nat,q=(i:Int):=⟨q.toNat,by omega⟩;have hij:i+j+1=m.length:=(by have:=HQ.out;rw[HML.out];omega);obtain⟨x,hxi⟩:∃x,m[i]? =some x:=⟨_,M0 B0⟩;have HTN:=A0 (Ln.tri_next hij hxi);have hown:=HO.out;have hsl:=HV3.out.1.ext HX.out;obtain⟨b',o',ha,hb,hc⟩:=hsl.bool_at (Ext.refl wr) hxi;injection ha with ha;injection ha with ha hb';subst ha hb';have hrl:((m.reverse.take j).flatMap Ln.tri3).length=3*j:=(by rw[Ln.tri_len,M1,D4];omega);have hj:j<=113:=M7;generalize(m.reverse.take j).flatMap Ln.tri3=L at*;obtain⟨v',w5,hrun,hown5,hg5⟩:=zN (w:=(wr.alloc (.cells #[.bool x,.bool x,.bool x] 4)).drew) 26 4 (.bool false) 1 underlying26 VJ rfl I0 w3.heap.size _ (L.map encT) (.inl (hown.ext ((Ext.refl _).alloc (.cells #[.bool x,.bool x,.bool x] 4)).drew)) wr.heap.size 0 3 3 [encT x,encT x,encT x] rfl B0
   (fun j u hj=>by
    match j with
    |0=>simp only[B3,I2]at hj;subst hj;simp[go_sem,encT]
    |1=>simp only[D5,B3,I2]at hj;subst hj;simp[go_sem,encT]
    |2=>simp only[D5,B3,I2]at hj;subst hj;simp[go_sem,encT]
    |j+3=>simp at hj)
   (fun u hu=>by simp only[V3,D8,E8]at hu;rcases hu with rfl|rfl|rfl<;>rfl)
   A3 (by have:=HX.out.size;simp;omega)
  have HX5:=A0 (((HX.out.alloc (.cells #[.bool x,.bool x,.bool x] 4)).drew).ofGrown hg5 hown.low);have HO5:Hid (Own 4 w5 w3.heap.size v' (((m.reverse.take (j+1)).flatMap Ln.tri3).map encT)):=A0 (by rw[HTN.out,E3];exact hown5);have hiI:(i:Int)<113:=B0;have hcd:(wr.alloc (.cells #[.bool x,.bool x,.bool x] 4)).heap.size=wr.heap.size+1:=L0;clear hown5 hg5 hown hsl hxi hij hrl hcd HO;go_wp2;go_region_law ((refine zO E4 _ _ _ E4 E4 _ _ E4 E4 _ _ hrun ?_));all_goals go_wp2;exact⟨⟨j+1,(i:Int)-1,rfl,by omega,by omega,A0 (by have:=HQ.out;omega),HO5,HX5⟩,by(simp[intOf];try omega)⟩
 obtain rfl:q= -1:=by omega
 have hj:j=113:=M7
 have hob:(m.reverse.take j).flatMap Ln.tri3=Ln.tri m:=by rw[X1 (by rw[D4,HML.out,hj];exact K0 _)];rfl
 rw[hob]at HO;have HLN:Hid (∀r∈[m,[],Ln.tri m],r.length<=1000000):=A0 (by intro r hr;simp only[V3,D8,E8]at hr;rcases hr with rfl|rfl|rfl;(·rw[HML.out];decide);(·decide);·rw[Ln.tri_eq,Ln.tri_len,D4,HML.out];decide);have HTL:Hid ((Ln.tri m).length=339):=A0 (by rw[Ln.tri_eq,Ln.tri_len,D4,HML.out]);have HRD:=A0 (KX u5 (Ln.tri m) wr HO.out.slk (by rw[HTL.out];decide) (Z2 HT.out (HX3.out.trans HX.out)));rw[HR.out]at HRD;have HSK:=A0 HO.out.slk;obtain⟨-,a5,c5,rfl,-⟩:=HO.out.slk;rw[J0,HTL.out]at HSK HRD⊢;have HX6:=A0 (HX3.out.trans HX.out);have HB6:=A0 (Ze HB3.out HX.out);have HV6:=A0 (HV3.out.ext HX.out);unfold gotV linV at HRD;dsimp only at HRD;rw[<-HEA.out.1,<-HEA.out.2]at HRD;clear hj hob HQ hq hq0 hq1 HO HX HB3 HV3 HX3;go_wp2_with fail;refine HRD.out.mono ?_;rintro e w6 ⟨rfl,hx6⟩;have HX7:=A0 (HX6.out.trans hx6);have HB7:=A0 (Ze HB6.out hx6);have HV7:=A0 (HV6.out.ext hx6);have HS7:=A0 (HSK.out.ext hx6);clear HX6 HB6 HV6 HSK hx6 HRD;go_wp2_with fail;refine(Zl6 _ _ (Zv L0 (Ext.refl _)) (Z2 HT.out ((HX7.out.alloc _).alloc _))).mono ?_;rintro e w7 ⟨rfl,hx7⟩;have HX8:=A0 (((HX7.out.alloc _).alloc _).trans hx7);have HB8:=A0 (Ze HB7.out ((((Ext.refl w6).alloc _).alloc _).trans hx7));have HB9:=A0 (Ze (Ze (L2 w6 (.cells #[.int .i64 1,.string T,.string A] 33)) ((Ext.refl _).alloc _)) hx7);have HV8:=A0 (HV7.out.ext ((((Ext.refl w6).alloc _).alloc _).trans hx7));have HS8:=A0 (HS7.out.ext ((((Ext.refl w6).alloc _).alloc _).trans hx7));have hs8:=hx7.size;have HL8:Hid (w6.heap.size+2<=w7.heap.size):=A0 (by simp at hs8;exact hs8);clear HX7 HB7 HV7 HS7 hx7 hs8;go_wp2_with fail;have HRW:=A0 (ZiQ (w7.heap.size+1) ((w7.alloc (.cells #[.int .i64 0,.string ⟨#[]⟩,.string ⟨#[]⟩] 33)).alloc (.cells #[.slice (some ⟨b,o,none⟩) 113 c1,.slice none 0 0,.slice a5 339 c5] 26)) _ _ _ m [] (Ln.tri m) (Zv L0 (Ext.refl _)) (HV8.out.ext (((Ext.refl _).alloc _).alloc _)) (SlK.nil _) (HS8.out.ext (((Ext.refl _).alloc _).alloc _)));have HVT:=A0 (qG _ _ _ HRW.out (Nat.le_of_ble_eq_true rfl) HLN.out (Z2 HT.out ((HX8.out.alloc _).alloc _)));rw[HV.out]at HVT;unfold JD lnV at HVT;dsimp only at HVT;rw[<-HEA.out.1,<-HEA.out.2]at HVT;refine HVT.out.mono ?_;rintro e w8 ⟨rfl,hx8⟩;obtain⟨p0,p1,p2,p3,-,-,-,-⟩:=Zj (Ze HB8.out ((((Ext.refl w7).alloc _).alloc _).trans hx8));obtain⟨q0,q1,q2,q3,-,-,-,-⟩:=Zj (Ze HB9.out ((((Ext.refl w7).alloc _).alloc _).trans hx8));have HX9:=A0 (((HX8.out.alloc _).alloc _).trans hx8);have HEQ:=fun w'=>Zo0 w' HEA.out.1 HEA.out.2;clear HX8 HB8 HB9 HV8 HS8 hx8 HVT HRW;go_wp2;go_ret;exact⟨rfl,(HX9.out.alloc _).alloc _⟩
end
end Go.Proofs.YtbngggoccndefaaGreatDoor
