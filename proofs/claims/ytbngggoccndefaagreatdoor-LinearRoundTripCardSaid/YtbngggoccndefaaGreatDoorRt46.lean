/-
  Laid.
-/
import Derived.Test.YtbngggoccndefaaGreatDoorRt43
import Derived.Test.YtbngggoccndefaaGreatDoorRt45
set_option maxHeartbeats 8000000
set_option maxRecDepth 100000
set_option linter.all false
namespace Go.Proofs.YtbngggoccndefaaGreatDoor
open Go.Proofs.Tryz
section
open Go.RowKit Go.Maps
def uQ (r:Li×Int×Int):Value:=.tuple #[lnV r.1,.int .i64 r.2.1,.int .i64 r.2.2]
namespace Ln
def cnt (l:List Lin):Lin->Option Int:=fun x=>if x∈l then some (l.count x:Int)else none
theorem cnt_get (l:List Lin) (x:Lin):(cnt l x).getD 0=(l.count x:Int):=by
 unfold cnt;split;·rfl
 ·rename_i h;rw[EA h];rfl
theorem cnt_nil:cnt []=fun _=>none:=by funext x;simp[cnt]
theorem cnt_snoc (l:List Lin) (x:Lin) {m:Int} (hm:m=(l.count x:Int)+1):(fun y=>if y=x then some m else cnt l y)=cnt (l++[x]):=by
 funext y;unfold cnt;simp only[List.count_append,M2,Y2];by_cases h:y=x;·subst h;rw[G0 rfl,G0 (.inr rfl),hm];simp
 ·rw[D0 h];have:List.count y [x]=0:=EA A6;rw[this];by_cases h2:y∈l;(·rw[G0 h2,G0 (.inl h2)];rfl);·rw[D0 h2,D0 (by rintro(h3|h3);exact h2 h3;exact h h3)]
theorem good_snoc (rows:List (List Bool)) {i:Nat} {r:List Bool} (h:rows[i]? =some r):good (rows.take (i+1))=good (rows.take i)++(if(read r).2=0 then [(read r).1]else []):=by unfold good;rw[R5,h,List.filterMap_append];congr 1;simp only[Option.toList,List.filterMap_cons,List.filterMap_nil];split<;>simp_all
theorem best_snoc (all:List Lin) (l:List Lin) (p:Lin×Nat) (x:Lin):bestGo all p (l++[x])=(if(bestGo all p l).2<all.count x then(x,all.count x)else bestGo all p l):=by
 induction l generalizing p with
 |nil=>rfl
 |cons z l ih=>exact ih _
theorem best_head (all:List Lin) {x:Lin} {l:List Lin} (h:x∈all):bestGo all (x,all.count x) (x::l)=bestGo all (zero,0) (x::l):=by have:=EB.2 h;rw[bestGo,bestGo,D0 H5,G0 H5]
end Ln
theorem TU (w:World):(zeroValue 3).run prog w=.ok (.int .i64 0) w:=Y0
theorem uR {W:World} {mb c0:Nat} {G:List Li} {x:Li} {kl:Lit} (h:MapV prog 33 lnV W mb c0 (Ln.cnt G)) (hk:keyOf prog 33 (lnV x)=some kl) (hc:c0<=1000000):
 ∃(st:Nat) (w1 w3:World),(Instr.mapEntry 112 (.map (some mb)) (lnV x)).run prog W.drew=.ok (.tuple #[.int .i64 (G.count x:Int),.int .i64 (st:Int)]) w1∧
  (Instr.lookup 112 (.map (some mb)) (lnV x) false).run prog W=.ok (.int .i64 (G.count x:Int)) W∧
  (Instr.lookup 112 (.map (some mb)) (lnV x) false).run prog W.drew=.ok (.int .i64 (G.count x:Int)) W.drew∧
  (Instr.lookup 112 (.map (some mb)) (lnV x) false).run prog w1=.ok (.int .i64 (G.count x:Int)) w1∧
  (Instr.entryStore 112 (.map (some mb)) (.int .i64 (st:Int)) (.int .i64 ((G.count x:Int)+1))).run prog w1=.ok () w3∧
  MapV prog 33 lnV w3 mb (c0+1) (Ln.cnt (G++[x]))∧W.grownBy w3 (some mb):=by
 have h2:MapV prog 33 lnV W.drew mb c0 (Ln.cnt G):=h
 obtain⟨st,w1,e1,e2,e3,e4⟩:=h2.entry (T:=112) uO underlying112 TU hk G5 pM
 obtain⟨w3,e5,e6,e7⟩:=e4 ((G.count x:Int)+1)
 have e8:=h.get1 (T:=112) NC underlying112 (TU W) hk
 have e9:=h2.get1 (T:=112) NC underlying112 (TU _) hk
 rw[Ln.cnt_get]at e1 e3 e8 e9
 refine⟨st,w1,w3,e1,e8,e9,e3,e5,?_,?_⟩
 ·rw[<-Ln.cnt_snoc G x rfl];exact e6
 ·exact⟨e7.os,e7.tape,e7.output,e7.size,e7.block⟩
def VS (wz:World) (rows:List (List Bool)) (v6:Value) (i:Nat) (wr:World):Prop:=
 LOwn wr (wz.heap.size+1) v6 (Ln.ord (Ln.good (rows.take i)))∧(∃n,n<=i∧MapV prog 33 lnV wr wz.heap.size n (Ln.cnt (Ln.good (rows.take i))))∧Ext wz wr
theorem pS (v:Value) (rows:List (List Bool)) (w:World) (hv:WZ w v rows) (hr:rows.length<=1000000) (hm:∀r∈rows,r.length<=1000000) (ht:ZB w):
 Calls prog 26 #[v] w fun e w'=>e=.returned (uQ (Ln.vote rows))∧Ext w w':=by
 have HT:=B0 ht
 have HV:=B0 hv
 have HM:=B0 hm
 have HD:=B0 (Ln.vote.eq_1 rows)
 generalize Ln.vote rows=res at*
 obtain⟨a,c,rfl⟩:=hv.form
 obtain⟨n,hn⟩:∃n,n=rows.length:=⟨_,rfl⟩
 rw[<-hn]at HV HD hr⊢
 have HN:=B0 hn
 clear hv hm hn ht
 by_cases h4:4096<n
 ·have h4I:4096<(n:Int):=C0;rw[G0 h4]at HD;clear h4;go_enter func26,ntmps26;go_wp2_with fail;refine R1 (FZ results26 rfl (E2 w _) rfl rfl) rfl ?_;rw[HD.out];exact U5
 have h4I:¬4096<(n:Int):=by omega
 rw[D0 h4]at HD
 have hn4:n<=4096:=by omega
 clear h4
 obtain⟨wz,hwz⟩:∃wz,wz=w.alloc (.cells #[.int .i64 0,.string ⟨#[]⟩,.string ⟨#[]⟩] 33):=⟨_,rfl⟩
 have HXZ:Hid (Ext w wz):=B0 (by rw[hwz];exact(Ext.refl w).alloc _)
 have HZ:=B0 hwz
 have HBZ:Hid (wz.heap[w.heap.size]? =some (.cells #[.int .i64 0,.string ⟨#[]⟩,.string ⟨#[]⟩] 33 (0,0))):=B0 (by rw[hwz];exact E2 _ _)
 have hzs:wz.heap.size=w.heap.size+1:=by rw[hwz];simp
 have HZS:=B0 hzs
 clear hwz hzs
 have hmm:= @RS prog
 have hmade:=MapV.made (P:=prog) (k:=33) (key:=lnV) wz
 have HV0:Hid (VS wz rows (.slice none 0 0) 0 (wz.alloc (.map #[] 0))):=B0 ⟨LOwn.nil _ _,⟨0,I0 _,by rw[W9];show MapV _ _ _ _ _ _ (Ln.cnt []);rw[Ln.cnt_nil];exact hmade⟩,(Ext.refl wz).alloc _⟩
 clear hmade
 go_enter func26,ntmps26
 go_wp2_with fail
 rw[<-HZ.out,<-HZS.out]
 go_loopw [6,21] (fun u t wr=>∃i:Nat,i<=n∧t=.int .i64 (i:Int)∧Hid (VS wz rows u i wr)) (fun _ t _=>n-(intOf t).toNat)
 case atStart=>exact⟨0,U0 _,rfl,HV0⟩
 case round=>
 clear HV0 hmm
 obtain⟨i,hi,rfl,HS⟩:=hrel
 by_cases hlt:i<n
 ·have hiI:(i:Int)<(n:Int):=C0;obtain⟨r,hri⟩:∃r,rows[i]? =some r:=⟨_,P0 U3⟩;obtain⟨hlo,⟨c0,hc0,hmp⟩,hxr⟩:=HS.out;obtain⟨b,o,x,y,z,ha,-,hc,hsl⟩:=HV.out.at_ (HXZ.out.trans hxr) hri;subst ha;have HRD:=B0 (FV _ r wr hsl (HM.out r (I1 hri)) (Zj HT.out (HXZ.out.trans hxr)));have HGS:=B0 (Ln.good_snoc rows hri);have hsm:=Ln.read_small r;obtain⟨⟨l,er⟩,hrd⟩:∃x,x=Ln.read r:=⟨_,rfl⟩;rw[<-hrd]at HRD HGS hsm;dsimp only at HGS hsm;clear hrd hri hsl HS;obtain⟨k,s,ad⟩:=l;unfold gotV linV at HRD;dsimp only at HRD;obtain⟨G,hG⟩:∃G,G=Ln.good (rows.take i):=⟨_,rfl⟩;rw[<-hG]at hlo hmp HGS;by_cases he:er=0;(·subst he;rw[G0 rfl]at HGS;obtain⟨kl,hkl⟩:=uP hsm;have hgl:(G.length:Int)<=5000:=(by rw[hG];have:=Ln.good_le (rows.take i);exact MH);have hcl:=ND (a:=(k,s,ad)) (l:=G);obtain⟨C,hC⟩:∃C,C=G.count (k,s,ad):=⟨_,rfl⟩;by_cases hx:(k,s,ad)∈G;(·have hC1:=EB.2 hx;have hor:Ln.ord (G++[(k,s,ad)])=Ln.ord G:=(by rw[Ln.ord_snoc,G0 ((Ln.ord_mem _ _).2 hx)]);rw[<-hC]at hC1 hcl;have hz:((C:Int)==0)=false:=V0.2 C0;have HFIN:Hid (∀w' w3,Ext wr w'->w'.grownBy w3 (some wz.heap.size)->(∃n,n<=i+1∧MapV prog 33 lnV w3 wz.heap.size n (Ln.cnt (G++[(k,s,ad)])))->VS wz rows u6 (i+1) w3):=B0 (fun w' w3 h hg hmm=>by refine⟨?_,?_,(hxr.trans h).ofGrown hg (fun q hq=>by injection hq with hq;omega)⟩;(·rw[HGS.out,hor];exact(hlo.ext h).kept hg (.inr (hlo.apart hmp)));·rw[HGS.out];exact hmm);clear hor hx;go_wp2_with fail;refine HRD.out.mono ?_;rintro e w2 ⟨rfl,hx2⟩;have hxa:=hx2.alloc (.cells #[.int .i64 k,.string (Ea.bS s),.string (Ea.bS ad)] 33);obtain⟨st,w3,w4,f1,f2,f3,f4,f5,f6,f7⟩:=uR (hmp.kept hxa.asGrown L0) hkl C0;unfold lnV at f1 f2 f3 f4;dsimp only at f1 f2 f3 f4;rw[<-hC]at f1 f2 f3 f4 f5;have HS3:=B0 (HFIN.out _ _ hxa f7 ⟨_,by omega,f6⟩);clear HFIN f6 f7 hmp hlo hxa hkl hC;go_wp2_with fail;go_region;exact EC);·have hC0:=EA hx;have hor:Ln.ord (G++[(k,s,ad)])=Ln.ord G++[(k,s,ad)]:=(by rw[Ln.ord_snoc,D0 (fun h=>hx ((Ln.ord_mem _ _).1 h))]);have hol:=Ln.ord_len G;rw[<-hC]at hC0;subst hC0;have HC:=B0 hC;clear hC hcl hG;have HFIN:Hid (∀v' w' w'' w3,Ext wr w'->LOwn w'' (wz.heap.size+1) v' (Ln.ord G++[(k,s,ad)])->Ext wz w''->w''.grownBy w3 (some wz.heap.size)->(∃kk c,w''.heap[wz.heap.size]? =some (.map kk c))->(∃n,n<=i+1∧MapV prog 33 lnV w3 wz.heap.size n (Ln.cnt (G++[(k,s,ad)])))->VS wz rows v' (i+1) w3):=B0 (fun v' w' w'' w3 h ho hxx hg hk hmm=>by refine⟨?_,?_,hxx.ofGrown hg (fun q hq=>by injection hq with hq;omega)⟩;(·rw[HGS.out,hor];refine ho.kept hg ?_;rcases ho.2 with⟨h1,_⟩|⟨g,cap,cur,h1,_,hg2,_⟩;(·exact .inl VX);·refine .inr (fun e=> ?_);rw[h1]at e;simp only[Value.ownBlock,A2]at e;subst e;obtain⟨kk,cc,hk⟩:=hk;rw[hg2]at hk;cases hk);·rw[HGS.out];exact hmm);clear hor hx;go_wp2_with fail;refine HRD.out.mono ?_;rintro e w2 ⟨rfl,hx2⟩;have hxa:=hx2.alloc (.cells #[.int .i64 k,.string (Ea.bS s),.string (Ea.bS ad)] 33);have hmpa:=hmp.kept hxa.asGrown L0;have g1:=hmpa.get1 (T:=112) NC underlying112 (TU _) hkl;rw[Ln.cnt_get,<-HC.out]at g1;have hxb:=hxa.alloc (.cells #[.int .i64 k,.string (Ea.bS s),.string (Ea.bS ad)] 33);have hlob:=hlo.ext hxb;have hmpb:=hmp.kept hxb.asGrown L0;have hzlt:=hmp.lt;unfold lnV at g1;dsimp only at g1;clear hmp hmpa;go_wp2_with (at_builtin;refine pR rfl _ _ rfl (wz.heap.size+1) _ _ rfl hlob _ (k,s,ad) rfl ?c1 ?c2 ?c3 ?c4 ?c5 ?_);(case c4=>omega);(case c5=>have:=hxb.size;omega);intro v3 w3 hown3 hg3;have hmp3:=hmpb.kept hg3 (hlob.apart hmpb);obtain⟨st,w4,w5,f1,f2,f3,f4,f5,f6,f7⟩:=uR hmp3 hkl C0;have hblk:w3.heap[w2.heap.size]? =some (.cells #[.int .i64 k,.string (Ea.bS s),.string (Ea.bS ad)] 33 (0,0)):=(by rw[hg3.block w2.heap.size I2 (fun e=>by have h1:=(J4 hlo _ e.symm).2;have h2:=hx2.size;omega)];exact Zb (E2 w2 _) ((Ext.refl _).alloc _));obtain⟨q0,q1,q2,q3,q4,q5,q6,q7⟩:=Zd hblk;unfold lnV at f1 f2 f3 f4;dsimp only at f1 f2 f3 f4;rw[<-HC.out]at f1 f2 f3 f4 f5;rw[show((0:Nat):Int)+1=1 from rfl]at f5;have HS3:=B0 (HFIN.out v3 _ w3 w5 hxb hown3 ((hxr.trans hxb).ofGrown hg3 (fun q hq=>by have:=hlob.low q hq;omega)) f7 hmp3.blk ⟨_,by omega,f6⟩);clear HFIN hmp3 hmpb hlob hlo f6 f7 hkl hblk q7 hg3 hown3;go_wp2_with fail;go_region;exact EC);·have hb:(er !=0)=true:=N2.2 he;rw[D0 he,B3]at HGS;clear he;have HS2:∀w',Ext wr w'->Hid (VS wz rows u6 (i+1) w'):=fun w' h=>B0 ⟨by rw[HGS.out];exact hlo.ext h,⟨c0,by omega,by rw[HGS.out];exact hmp.kept h.asGrown L0⟩,hxr.trans h⟩;clear hlo hmp hG;go_wp2_with fail;refine HRD.out.mono ?_;rintro e w2 ⟨rfl,hx2⟩;have HS3:=HS2 _ (hx2.alloc (.cells #[.int .i64 k,.string (Ea.bS s),.string (Ea.bS ad)] 33));clear HS2;exact EC
 obtain rfl:n=i:=by omega
 obtain⟨hlo,⟨c0,hc0,hmp⟩,hxr⟩:=HS.out
 rw[P1 D8]at hlo hmp
 obtain⟨G,hG⟩:∃G,G=Ln.good rows:=⟨_,rfl⟩
 have hsm:∀l∈G,Ln.Small l:=by rw[hG];exact Ln.good_small
 have hgl:G.length<=5000:=by rw[hG];have:=Ln.good_le rows;rw[<-HN.out]at this;omega
 rw[<-hG]at hlo hmp HD
 rw[<-Ln.best_first G G]at HD
 have hmem:=Ln.ord_mem G
 have hol:=Ln.ord_len G
 obtain⟨L,hL⟩:∃L,L=Ln.ord G:=⟨_,rfl⟩
 rw[<-hL]at hlo HD hmem hol
 have HBR:=B0 (Zb HBZ.out hxr)
 have HXR:=B0 (HXZ.out.trans hxr)
 obtain⟨f0,f1,f2,f3,f4,f5,f6,f7⟩:=Zd HBR.out
 clear hi hlt HS hG hL
 have key:L=[]->Hid (res=(Ln.zero,0,29)):=by rintro rfl;exact B0 HD.out
 rcases hlo.form with⟨hnil,rfl⟩|⟨g,cg,rfl,hg,hcells⟩
 ·have HF:=key hnil;clear HD key hlo hmp hmem hol;exact uS
 obtain⟨N,hN⟩:∃N,N=L.length:=⟨_,rfl⟩
 rw[<-hN]at hol⊢
 by_cases h0:N=0
 ·have HF:=key (V2 (hN▸h0));subst h0;clear HD key hlo hmp hmem hol hN;exact uS
 have hn0:(0:Int)<(N:Int):=by omega
 have hz:((N:Int)==0)=false:=V0.2 C0
 obtain⟨x0,hx0⟩:∃x,L[0]? =some x:=⟨_,P0 C0⟩
 have hx0m:x0∈G:=(hmem _).1 (I1 hx0)
 obtain⟨L',hL'⟩:∃L',L=x0::L':=by
  cases L with
  |nil=>simp at hx0
  |cons y L'=>simp only[E3,A2]at hx0;exact⟨L',by rw[hx0]⟩
 have HB0:Hid (Ln.bestGo G (x0,G.count x0) L=Ln.bestGo G (Ln.zero,0) L):=B0 (by rw[hL'];exact Ln.best_head G hx0m)
 obtain⟨d0,d1,d2⟩:=hcells 0 x0 hx0
 rw[SL]at d0 d1 d2
 rw[P3]at d1 d2
 have HCE:=B0 hcells
 have HMP:=B0 hmp
 have HSM:=B0 hsm
 have HME:=B0 hmem
 have HN2:=B0 hN
 have HX0:=B0 hx0m
 clear hcells hmp hsm hmem hN hx0 hL' key hlo h0 hx0m hxr
 obtain⟨xk,xs,xa⟩:=x0
 dsimp only at d0 d1 d2
 go_wp2_with fail
 have HLK:Hid (∀(W:World) (l:Li),l∈G->GB (some w.heap.size) wr W->(Instr.lookup 112 (.map (some wz.heap.size)) (lnV l) false).run prog W=.ok (.int .i64 (G.count l:Int)) W):=B0 (fun W l hl hx=>by obtain⟨kl,hk⟩:=uP (HSM.out l hl);have:=(HMP.out.kept hx (fun e=>by injection e with e;have:=HZS.out;omega)).get1 (T:=112) NC underlying112 (TU W) hk;rw[Ln.cnt_get]at this;exact this)
 have HBN:Hid ((wr.alloc (.cells #[.int .i64 xk,.string (Ea.bS xs),.string (Ea.bS xa)] 33)).heap[wr.heap.size]? =some (.cells #[.int .i64 xk,.string (Ea.bS xs),.string (Ea.bS xa)] 33 (0,0))):=B0 (E2 _ _)
 clear d0 d1 d2 f1 f2 f3 f4 f5 f6 f7 hz hn0
 go_loopw [56] (fun t wq=>∃(j:Nat) (y:Li),j<=N∧t=.int .i64 (j:Int)∧Hid (y∈G)∧Hid (Ln.bestGo G ((xk,xs,xa),G.count (xk,xs,xa)) (L.take j)=(y,G.count y))∧Hid (wq.heap[wr.heap.size]? =some (.cells #[.int .i64 y.1,.string (Ea.bS y.2.1),.string (Ea.bS y.2.2)] 33 (0,0)))∧Hid (Ext wr wq)) (fun t _=>N-(intOf t).toNat)
 case atStart=>exact⟨0,(xk,xs,xa),U0 _,rfl,HX0,B0 rfl,HBN,B0 ((Ext.refl wr).alloc _)⟩
 case round=>
 clear HBN HX0
 obtain⟨j,y,hj,rfl,HY,HBG,HB,HX⟩:=hrel
 obtain⟨yk,ys,ya⟩:=y
 dsimp only at HB
 obtain⟨q0,q1,q2,q3,q4,q5,q6,q7⟩:=Zd HB.out
 by_cases hlt:j<N
 ·have hjI:(j:Int)<(N:Int):=C0;obtain⟨z,hzj⟩:∃z,L[j]? =some z:=⟨_,P0 (by rw[<-HN2.out];exact hlt)⟩;have hzm:=(HME.out z).1 (I1 hzj);obtain⟨e0,e1,e2⟩:=HCE.out j z hzj;have HBZ:=B0 (Ln.best_snoc G (L.take j) ((xk,xs,xa),G.count (xk,xs,xa)) z);have HTK:Hid (L.take (j+1)=L.take j++[z]):=B0 (by rw[R5,hzj];rfl);have HZM:=B0 hzm;obtain⟨zk,zs,za⟩:=z;dsimp only at e0 e1 e2;have hg2:=hg;have e0:=(HX.out.cell (p:=⟨g,j*3,none⟩) hg2).trans e0;have e1:=(HX.out.cell (p:=⟨g,j*3+1,none⟩) hg2).trans e1;have e2:=(HX.out.cell (p:=⟨g,j*3+2,none⟩) hg2).trans e2;have hxa:=HX.out.alloc (.cells #[.int .i64 zk,.string (Ea.bS zs),.string (Ea.bS za)] 33);have l1:=HLK.out _ _ hzm (GB.ext hxa.drew);have l2:=HLK.out _ _ HY.out (GB.ext hxa.drew);unfold lnV at l1 l2;dsimp only at l1 l2;rw[HBG.out]at HBZ;dsimp only at HBZ;have hcz:=ND (a:=(zk,zs,za)) (l:=G);have hcy:=ND (a:=(yk,ys,ya)) (l:=G);generalize hCZ:List.count (zk,zs,za) G=CZ at*;generalize hCY:List.count (yk,ys,ya) G=CY at*;have HCZ:=B0 hCZ;have HCY:=B0 hCY;have HXA:=B0 hxa;clear hzj hzm hxa hCZ hCY;by_cases hc:CY<CZ;(·have hcI:(CY:Int)<(CZ:Int):=C0;rw[G0 hc]at HBZ;clear hc;go_wp2_with fail;go_region;go_wp2_with fail;refine⟨⟨j+1,(zk,zs,za),by omega,by go_num,HZM,B0 (by rw[HTK.out,HBZ.out,HCZ.out]),B0 ?_,B0 ?_⟩,?_⟩;(·exact Zb (Zf q7) (((Ext.refl _).alloc _).drew));(·exact((Zu HX.out (I0 _) _ _ _).alloc _).drew);·(simp[intOf];try omega));·have hcI:¬(CY:Int)<(CZ:Int):=C0;rw[D0 hc]at HBZ;clear hc;go_wp2_with fail;go_region;go_wp2_with fail;refine⟨⟨j+1,(yk,ys,ya),by omega,by go_num,HY,B0 (by rw[HTK.out,HBZ.out,HCY.out]),B0 ?_,B0 ?_⟩,?_⟩;(·exact Zb q7.out (((Ext.refl _).alloc _).drew));(·exact HXA.out.drew);·(simp[intOf];try omega)
 obtain rfl:N=j:=by omega
 clear hj hlt
 have HBG2:=HBG.out
 rw[P1 (by rw[<-HN2.out];exact I0 _),HB0.out]at HBG2
 rw[HBG2]at HD
 dsimp only at HD
 have hcp:=EB.2 HY.out
 rw[D0 C0]at HD
 have hcy:=ND (a:=(yk,ys,ya)) (l:=G)
 have l1:=HLK.out _ _ HY.out (GB.ext HX.out.drew)
 have l2:=HLK.out _ _ HY.out (((((GB.ext HX.out).setRow 0 (.int .i64 yk)).setRow 1 (.string (Ea.bS ys))).setRow 2 (.string (Ea.bS ya))).drew)
 unfold lnV at l1 l2
 dsimp only at l1 l2
 generalize List.count (yk,ys,ya) G=CY at*
 obtain⟨f0,f1,f2,f3,f4,f5,f6,f7⟩:=Zd (Zb HBR.out HX.out)
 have HXF:=B0 (HXR.out.trans HX.out)
 clear HBG2 HBG
 go_wp2_with fail
 go_region
 go_wp2_with fail
 refine R1 (FZ results26 rfl (Zb (Zf f7) ((Ext.refl _).drew)) rfl rfl) rfl ?_
 rw[HD.out]
 exact⟨rfl,(Zu HXF.out (I0 _) _ _ _).drew⟩
end
section
open Go.RowKit
namespace Ln
def tri3 (b:Bool):List Bool:=[b,b,b]
theorem tri_eq (l:List Bool):tri l=l.reverse.flatMap tri3:=rfl
theorem tri_next {l:List Bool} {j i:Nat} {x:Bool} (hi:i+j+1=l.length) (h:l[i]? =some x):(l.reverse.take (j+1)).flatMap tri3=(l.reverse.take j).flatMap tri3++[x,x,x]:=by
 have:l.reverse[j]? =some x:=by rw[OY C0,<-h];congr 1;omega
 rw[R5,this,VJ];rfl
theorem tri_len (l:List Bool):(l.flatMap tri3).length=3*l.length:=by
 induction l with
 |nil=>rfl
 |cons x l ih=>rw[P5,O0,ih];simp[tri3];omega
theorem ex_fin:encFin (encEan 1 [53,57,48,49,50,51,52,49,50,51,52,53] [])=(exRow,0):=Y1
end Ln
theorem pT (w:World):Calls prog 10 #[.int .i64 1,.string ⟨#[53,57,48,49,50,51,52,49,50,51,52,53]⟩,.agg #[.int .i64 0,.bool false,.string ⟨#[]⟩]] w (ZT (Ln.exRow,0) w):=by have h:=yT 1 (.inl rfl) ⟨#[53,57,48,49,50,51,52,49,50,51,52,53]⟩ 0 false ⟨#[]⟩ J0 J0 w;rw[show Ln.encFin (Ln.encEan 1 (ByteArray.data ⟨#[53,57,48,49,50,51,52,49,50,51,52,53]⟩).toList (ByteArray.data ⟨#[]⟩).toList)=(Ln.exRow,0)from Ln.ex_fin]at h;exact h
theorem pU (w:World) {T A:ByteArray} (hT:T=Ea.bS Ln.exT) (hA:A=Ea.bS []):(binOp .eql 33 (.agg #[.int .i64 1,.string T,.string A]) (.agg #[.int .i64 1,.string ⟨#[53,57,48,49,50,51,52,49,50,51,52,53,55]⟩,.string ⟨#[]⟩])).run prog w=.ok (.bool true) w:=by have e1:T=⟨#[53,57,48,49,50,51,52,49,50,51,52,53,55]⟩:=hT;have e2:A=⟨#[]⟩:=hA;rw[e1,e2,FX];simp only[beq_self_eq_true,RN]
theorem pV (g:Nat) (w:World) (hg:w.heap[g]? =some (.cells #[.bool false,.bool false] 4 (0,0))) (ht:ZB w):
 Calls prog 15 #[.slice (some ⟨g,0,none⟩) 2 2] w fun e w'=>e=.returned (.tuple #[.agg #[.int .i64 0,.string ⟨#[]⟩,.string ⟨#[]⟩],.int .i64 5])∧Ext w w':=by
 have h:Own 4 w 0 (.slice (some ⟨g,0,none⟩) 2 2) ([false,false].map encT):=UX hg rfl C0 (U0 _)
 have:=FV _ [false,false] w h.slk J0 ht
 rw[Ln.ex_two]at this
 exact this
theorem pW (g:Nat) (w:World) (x y z:Value) (a b c:List Bool) (hg:w.heap[g]? =some (.cells #[x,y,z] 26 (0,0))) (hx:SlK w x (a.map encT)) (hy:SlK w y (b.map encT)) (hz:SlK w z (c.map encT)):
 WZ w (.slice (some ⟨g,0,none⟩) 3 3) [a,b,c]:=by
 have h:Own 26 w 0 (.slice (some ⟨g,0,none⟩) 3 3) [x,y,z]:=UX hg rfl C0 (U0 _)
 refine⟨[x,y,z],h.slk,rfl,fun i u r hi hr=> ?_⟩
 match i with
 |0=>simp at hi hr;subst hi hr;exact hx
 |1=>simp at hi hr;subst hi hr;exact hy
 |2=>simp at hi hr;subst hi hr;exact hz
 |i+3=>simp at hi
theorem pX (w:World) (ht:ZB w):Calls prog 9 #[] w fun e w'=>e=.returned (.bool true)∧Ext w w':=by
 have HT:=B0 ht;have HE:=B0 pT;have HLQ:=B0 FX;obtain⟨m,hm⟩:∃m,m=Ln.exRow:=⟨_,rfl⟩;have hml:m.length=113:=by rw[hm];exact Ln.ex_len
 have HD:=B0 (show Ln.decode m=((1,Ln.exT,[]),0) by rw[hm];exact Ln.ex_dec);have HR:=B0 (show Ln.read (Ln.tri m)=((1,Ln.exT,[]),0) by rw[hm];exact Ln.ex_read3);have HV:=B0 (show Ln.vote [m,[],Ln.tri m]=((1,Ln.exT,[]),2,0) by rw[hm];exact Ln.ex_vote);rw[<-hm]at HE;have HML:=B0 hml;clear hm ht hml;go_enter func9,ntmps9;go_wp2_with fail;refine(HE.out _).mono ?_;rintro e w1 ⟨v1,rfl,hv1,hx1⟩;dsimp only at hv1⊢;have HV1:=B0 hv1;have HDC:=B0 (NB v1 m w1 hv1 (by rw[HML.out];decide) (Zj HT.out hx1));rw[HD.out]at HDC;obtain⟨hsl,a1,c1,rfl,hcap⟩:=hv1;rw[N0,HML.out]at HV1 HDC hcap⊢;have hx0:∃x,m[0]? =some x:=⟨_,P0 (by rw[HML.out];decide)⟩;obtain⟨x0,hx0⟩:=hx0;have hsl0:=HV1.out.1;obtain⟨b,o,ha,hb,-⟩:=hsl0.bool_at (Ext.refl _) hx0;subst ha;unfold gotV linV at HDC;dsimp only at HDC;have HX1:=B0 hx1;clear hsl hsl0 hx0 hx1;go_wp2_with fail;refine HDC.out.mono ?_;rintro e w2 ⟨rfl,hx2⟩;have HX2:=B0 (HX1.out.trans hx2);have HV2:=B0 (HV1.out.ext hx2);obtain⟨T,hT⟩:∃T,T=Ea.bS Ln.exT:=⟨_,rfl⟩;obtain⟨A,hA⟩:∃A,A=Ea.bS []:=⟨_,rfl⟩;rw[<-hT,<-hA];have HEA:=B0 (And.intro hT hA);clear HDC hx2 hT hA;go_wp2_with fail;obtain⟨w3,hw3⟩:∃w3,w3=w2.alloc (.cells #[.int .i64 1,.string T,.string A] 33):=⟨_,rfl⟩;rw[<-hw3];have HX3:Hid (Ext w w3):=B0 (by rw[hw3];exact HX2.out.alloc _);have HB3:Hid (w3.heap[w2.heap.size]? =some (.cells #[.int .i64 1,.string T,.string A] 33 (0,0))):=B0 (by rw[hw3];exact E2 _ _);have HV3:Hid (SlK w3 (.slice (some ⟨b,o,none⟩) 113 c1) (m.map encT)):=B0 (by rw[hw3];exact HV2.out.ext ((Ext.refl _).alloc _));clear hw3 HX2 HV1 HV2 HX1 hb;go_loopw [5,6] (fun u t wr=>∃(j:Nat) (q:Int),t=.int .i64 q∧-1<=q∧q<=112∧Hid (q+(j:Int)=112)∧Hid (Own 4 wr w3.heap.size u (((m.reverse.take j).flatMap Ln.tri3).map encT))∧Hid (Ext w3 wr)) (fun _ t _=>(intOf t+1).toNat);case atStart=>exact⟨0,112,rfl,by omega,by omega,B0 C0,B0 (Own.nil _ _ _),B0 (Ext.refl _)⟩
 case round=>
 obtain⟨j,q,rfl,hq0,hq1,HQ,HO,HX⟩:=hrel;by_cases hq:0<=q
 ·obtain⟨i,rfl⟩:∃i:Nat,q=(i:Int):=⟨q.toNat,by omega⟩;have hij:i+j+1=m.length:=(by have:=HQ.out;rw[HML.out];omega);obtain⟨x,hxi⟩:∃x,m[i]? =some x:=⟨_,P0 C0⟩;have HTN:=B0 (Ln.tri_next hij hxi);have hown:=HO.out;have hsl:=HV3.out.1.ext HX.out;obtain⟨b',o',ha,hb,hc⟩:=hsl.bool_at (Ext.refl wr) hxi;injection ha with ha;injection ha with ha hb';subst ha hb';have hrl:((m.reverse.take j).flatMap Ln.tri3).length=3*j:=(by rw[Ln.tri_len,L1,P4];omega);have hj:j<=113:=WO;generalize(m.reverse.take j).flatMap Ln.tri3=L at*;obtain⟨v',w5,hrun,hown5,hg5⟩:=ES (w:=(wr.alloc (.cells #[.bool x,.bool x,.bool x] 4)).drew) 26 4 (.bool false) 1 underlying26 SJ rfl J0 w3.heap.size _ (L.map encT) (.inl (hown.ext ((Ext.refl _).alloc (.cells #[.bool x,.bool x,.bool x] 4)).drew)) wr.heap.size 0 3 3 [encT x,encT x,encT x] rfl C0
   (fun j u hj=>by
    match j with
    |0=>simp only[E3,A2]at hj;subst hj;simp[go_sem,encT]
    |1=>simp only[R3,E3,A2]at hj;subst hj;simp[go_sem,encT]
    |2=>simp only[R3,E3,A2]at hj;subst hj;simp[go_sem,encT]
    |j+3=>simp at hj)
   (fun u hu=>by simp only[U1,L4,M4]at hu;rcases hu with rfl|rfl|rfl<;>rfl)
   D5 (by have:=HX.out.size;simp;omega)
  have HX5:=B0 (((HX.out.alloc (.cells #[.bool x,.bool x,.bool x] 4)).drew).ofGrown hg5 hown.low);have HO5:Hid (Own 4 w5 w3.heap.size v' (((m.reverse.take (j+1)).flatMap Ln.tri3).map encT)):=B0 (by rw[HTN.out,B4];exact hown5);have hiI:(i:Int)<113:=C0;have hcd:(wr.alloc (.cells #[.bool x,.bool x,.bool x] 4)).heap.size=wr.heap.size+1:=L0;clear hown5 hg5 hown hsl hxi hij hrl hcd HO;go_wp2;go_region_law ((refine ET (by rfl) _ _ _ (by rfl) (by rfl) _ _ (by rfl) (by rfl) _ _ hrun ?_));all_goals go_wp2;exact⟨⟨j+1,(i:Int)-1,rfl,by omega,by omega,B0 (by have:=HQ.out;omega),HO5,HX5⟩,by(simp[intOf];try omega)⟩
 obtain rfl:q= -1:=by omega
 have hj:j=113:=WO
 have hob:(m.reverse.take j).flatMap Ln.tri3=Ln.tri m:=by rw[P1 (by rw[P4,HML.out,hj];exact I0 _)];rfl
 rw[hob]at HO;have HLN:Hid (∀r∈[m,[],Ln.tri m],r.length<=1000000):=B0 (by intro r hr;simp only[U1,L4,M4]at hr;rcases hr with rfl|rfl|rfl;(·rw[HML.out];decide);(·decide);·rw[Ln.tri_eq,Ln.tri_len,P4,HML.out];decide);have HTL:Hid ((Ln.tri m).length=339):=B0 (by rw[Ln.tri_eq,Ln.tri_len,P4,HML.out]);have HRD:=B0 (FV u5 (Ln.tri m) wr HO.out.slk (by rw[HTL.out];decide) (Zj HT.out (HX3.out.trans HX.out)));rw[HR.out]at HRD;have HSK:=B0 HO.out.slk;obtain⟨-,a5,c5,rfl,-⟩:=HO.out.slk;rw[N0,HTL.out]at HSK HRD⊢;have HX6:=B0 (HX3.out.trans HX.out);have HB6:=B0 (Zb HB3.out HX.out);have HV6:=B0 (HV3.out.ext HX.out);unfold gotV linV at HRD;dsimp only at HRD;rw[<-HEA.out.1,<-HEA.out.2]at HRD;clear hj hob HQ hq hq0 hq1 HO HX HB3 HV3 HX3;go_wp2_with fail;refine HRD.out.mono ?_;rintro e w6 ⟨rfl,hx6⟩;have HX7:=B0 (HX6.out.trans hx6);have HB7:=B0 (Zb HB6.out hx6);have HV7:=B0 (HV6.out.ext hx6);have HS7:=B0 (HSK.out.ext hx6);clear HX6 HB6 HV6 HSK hx6 HRD;go_wp2_with fail;refine(pV _ _ (Z9 L0 (Ext.refl _)) (Zj HT.out ((HX7.out.alloc _).alloc _))).mono ?_;rintro e w7 ⟨rfl,hx7⟩;have HX8:=B0 (((HX7.out.alloc _).alloc _).trans hx7);have HB8:=B0 (Zb HB7.out ((((Ext.refl w6).alloc _).alloc _).trans hx7));have HB9:=B0 (Zb (Zb (E2 w6 (.cells #[.int .i64 1,.string T,.string A] 33)) ((Ext.refl _).alloc _)) hx7);have HV8:=B0 (HV7.out.ext ((((Ext.refl w6).alloc _).alloc _).trans hx7));have HS8:=B0 (HS7.out.ext ((((Ext.refl w6).alloc _).alloc _).trans hx7));have hs8:=hx7.size;have HL8:Hid (w6.heap.size+2<=w7.heap.size):=B0 (by simp at hs8;exact hs8);clear HX7 HB7 HV7 HS7 hx7 hs8;go_wp2_with fail;have HRW:=B0 (pW (w7.heap.size+1) ((w7.alloc (.cells #[.int .i64 0,.string ⟨#[]⟩,.string ⟨#[]⟩] 33)).alloc (.cells #[.slice (some ⟨b,o,none⟩) 113 c1,.slice none 0 0,.slice a5 339 c5] 26)) _ _ _ m [] (Ln.tri m) (Z9 L0 (Ext.refl _)) (HV8.out.ext (((Ext.refl _).alloc _).alloc _)) (SlK.nil _) (HS8.out.ext (((Ext.refl _).alloc _).alloc _)));have HVT:=B0 (pS _ _ _ HRW.out (NJ rfl) HLN.out (Zj HT.out ((HX8.out.alloc _).alloc _)));rw[HV.out]at HVT;unfold uQ lnV at HVT;dsimp only at HVT;rw[<-HEA.out.1,<-HEA.out.2]at HVT;refine HVT.out.mono ?_;rintro e w8 ⟨rfl,hx8⟩;obtain⟨p0,p1,p2,p3,-,-,-,-⟩:=Zd (Zb HB8.out ((((Ext.refl w7).alloc _).alloc _).trans hx8));obtain⟨q0,q1,q2,q3,-,-,-,-⟩:=Zd (Zb HB9.out ((((Ext.refl w7).alloc _).alloc _).trans hx8));have HX9:=B0 (((HX8.out.alloc _).alloc _).trans hx8);have HEQ:=fun w'=>pU w' HEA.out.1 HEA.out.2;clear HX8 HB8 HB9 HV8 HS8 hx8 HVT HRW;go_wp2;go_ret;exact⟨rfl,(HX9.out.alloc _).alloc _⟩
def LinM (w:World) (b:Nat) (W:Ln.Lin):Prop:=∃X A:ByteArray,w.heap[b]? =some (.cells #[.int .i64 W.1,.string X,.string A] 33 (0,0))∧X.data.toList=W.2.1∧A.data.toList=W.2.2
namespace Ln
def want0 (k:Int) (l:List UInt8) (a:List UInt8):Lin:=
 if k=1∨k=2∨k=3∨k=4 then(Ea.outK k (Ea.comp k l).1,Ea.outT k (Ea.comp k l).1,a)
 else if k=9 then(9,(Gs.format (Gs.parse l).1).1,[])
 else(k,l,[])
def want1 (k:Int) (l:S) (r:Int) (ck:Bool) (a:S):Lin:=
 if k=5∨k=6∨k=7 then(k,(Tw.dec k (Tw.enc k l r ck).1 false).1,[])else want0 k l a
theorem ean_full {k:Int} {l a:S} {r:Int} {ck:Bool} {m:List Bool} (hk:k=1∨k=2∨k=3∨k=4) (h:encAny k l r ck a=(m,0)) (hm:m.length<=65536):∃F,Ea.comp k l=(F,0)∧1<=F.length:=by unfold encAny at h;rw[G0 hk]at h;have g1:=(back_ean (by rw[h]) TV).1;refine⟨(Ea.comp k l).1,I6 rfl g1,?_⟩;unfold encEan at h;rw[D0 (fun e=>e g1)]at h;have hf:=(Ea.enc_body (by rw[h])).1;have h3:=(Ea.full_ok hf).2.2.1;have h4:=(Ea.full_ok hf).1;rw[h3];unfold Ea.size at h4⊢;(repeat' split at h4)<;>simp_all
theorem all_back {k:Int} {l a:S} {r:Int} {ck:Bool} {m:List Bool} (hl:l.length<=60) (h:encAny k l r ck a=(m,0)) (hm:m.length<=65536):
 Back m (want1 k l r ck a)∧(k=5∨k=6∨k=7->(Tw.enc k l r ck).2=0∧(Tw.dec k (Tw.enc k l r ck).1 false).2=0)∧(k=9->(Gs.parse l).2=0∧(Gs.format (Gs.parse l).1).2=0):=by
 unfold encAny at h
 unfold want1 want0
 by_cases h1:k=1∨k=2∨k=3∨k=4
 ·rw[G0 h1]at h⊢;have hb:=(back_ean (k:=k) (l:=l) (a:=a) (by rw[h]) TV).2;rw[h]at hb;rw[D0 C0];exact⟨hb,fun h5=>by omega,fun h9=>by omega⟩
 rw[D0 h1]at h⊢
 by_cases h5:k=5∨k=6∨k=7
 ·rw[G0 h5]at h⊢;obtain⟨g1,g2,hb⟩:=back_two hl h5 (by rw[h]) TV;rw[h]at hb;exact⟨hb,fun _=>⟨g1,g2⟩,fun h9=>by omega⟩
 rw[D0 h5]at h⊢
 by_cases h8:k=8
 ·rw[G0 h8]at h;have hb:=back_code hl (by rw[h]) TV;rw[h]at hb;rw[D0 C0,h8];exact⟨hb,fun h5=>by omega,fun h9=>by omega⟩
 rw[D0 h8]at h
 by_cases h9:k=9
 ·rw[G0 h9]at h⊢;obtain⟨g1,g2,hb⟩:=back_gs (by rw[h]) TV;rw[h]at hb;exact⟨hb,fun h5=>by omega,fun _=>⟨g1,g2⟩⟩
 ·rw[D0 h9]at h;cases h
theorem kinds_nine {k:Int} {l a:S} {r:Int} {ck:Bool} {m:List Bool} (h:encAny k l r ck a=(m,0)):k=1∨(k=2∨k=3∨k=4)∨(k=5∨k=6∨k=7∨k=8)∨k=9:=by
 unfold encAny at h;by_cases h1:k=1∨k=2∨k=3∨k=4;·omega
 rw[D0 h1]at h;by_cases h5:k=5∨k=6∨k=7;·omega
 rw[D0 h5]at h;by_cases h8:k=8;·omega
 rw[D0 h8]at h;by_cases h9:k=9;·omega
 ·rw[D0 h9]at h;cases h
end Ln
theorem ED (w:World) (W:Ln.Lin) (X A:ByteArray) (h1:X.data.toList=W.2.1) (h2:A.data.toList=W.2.2):(binOp .eql 33 (.agg #[.int .i64 W.1,.string (Ea.bS W.2.1),.string (Ea.bS W.2.2)]) (.agg #[.int .i64 W.1,.string X,.string A])).run prog w=.ok (.bool true) w:=by rw[FX,G2,G2,G2,G2,Ea.bS_list,Ea.bS_list,h1,h2];simp only[beq_self_eq_true,RN]
theorem uT {X:ByteArray} {F:List UInt8} (h:X.data.toList=F) (hl:1<=F.length):X.toList.isEmpty=false:=by
 rw[G2,h]
 cases F with
 |nil=>cases hl
 |cons c F=>rfl
theorem pY {X:ByteArray} {F:List UInt8} (h:X.data.toList=F) (hl:1<=F.length):((X.extract 0 1).toList== [48])=decide (F.getD 0 0=48):=by
 rw[G2,ByteArray.data_extract,Array.toList_extract,h]
 cases F with
 |nil=>cases hl
 |cons c F=>have e:(List.extract (c::F) 0 1)=[c]:=(by simp[List.extract_eq_take_drop]);rw[e];show([c]== [48])=decide (c=48);by_cases hc:c=48;(·subst hc;rfl);·rw[D1 hc];simp[hc]
theorem pZ {X:ByteArray} {F:List UInt8} (h:X.data.toList=F) (n:Nat) (hn:n=X.size):(X.extract 1 n).data.toList=F.drop 1:=by
 have hl:F.length=X.size:=by rw[<-h,Za]
 rw[ByteArray.data_extract,Array.toList_extract,h];simp only[List.extract_eq_take_drop];exact P1 E7
theorem law_round (k:Int) (s a:ByteArray) (r:Int) (ck:Bool) (w:World) (ht:ZB w):
 Calls prog 6 #[.int .i64 k,.string s,.agg #[.int .i64 r,.bool ck,.string a]] w fun e w'=>e=.returned (.bool true)∧Ext w w':=by
 have HT:=B0 ht
 have HAW:=B0 pX
 clear ht
 by_cases hs6:60<s.size
 ·have hsI:60<(s.size:Int):=C0;clear hs6;exact uU
 have hsI:¬60<(s.size:Int):=by omega
 by_cases ha6:60<a.size
 ·have haI:60<(a.size:Int):=C0;clear hs6 ha6;exact uU
 have haI:¬60<(a.size:Int):=by omega
 have hs60:s.size<=60:=by omega
 have hsl:s.data.toList.length<=60:=by rw[Za];exact hs60
 have HEN:=B0 (fun(w':World) (h:Ext w w')=>nL k s r ck a hs60 C0 w' (Zj HT.out h))
 have HBAD:=B0 (fun h=> @Ln.fin_bad (Ln.encAny k s.data.toList r ck a.data.toList) h)
 have HOKF:=B0 (fun h=> @Ln.fin_ok (Ln.encAny k s.data.toList r ck a.data.toList) h)
 obtain⟨en,hen⟩:∃en,en=Ln.encode k s.data.toList r ck a.data.toList:=⟨_,rfl⟩
 have HENV:Hid (Ln.encFin (Ln.encAny k s.data.toList r ck a.data.toList)=en):=B0 hen.symm
 rw[<-hen]at HEN
 clear hen hs6 ha6
 obtain⟨m,er⟩:=en
 by_cases h0:er=0
 ·subst h0;have hfin:=HOKF.out (by rw[HENV.out]);rw[HENV.out]at hfin;obtain⟨f1,f2,f3⟩:=hfin;rw[<-f1]at f2 f3;dsimp only at f3;have HENC:Hid (Ln.encAny k s.data.toList r ck a.data.toList=(m,0)):=B0 f1.symm;have HML:Hid (m.length<=65536):=B0 f3;have HAB:=B0 (Ln.all_back hsl HENC.out f3);clear f1 f2 f3 HBAD HOKF;go_enter func6,ntmps6;go_wp2_with fail;refine(HEN.out _ ((Ext.refl w).alloc _)).mono ?_;rintro e w1 ⟨v1,rfl,hv1,hx1⟩;dsimp only at hv1⊢;have HV1:=B0 hv1;have HX1:Hid (Ext w w1):=B0 (((Ext.refl w).alloc _).trans hx1);have HOB:Hid (w1.heap[w.heap.size]? =some (.cells #[.int .i64 r,.bool ck,.string a] 24 (0,0))):=B0 (Zb (E2 w _) hx1);have hwl:w.heap.size<w1.heap.size:=(F3.1 HOB.out).1;have HK9:=B0 (Ln.kinds_nine HENC.out);clear hv1 hx1 HEN HENV;go_upto_block 0 with fail;go_cut [10]from 22 (fun s10 wx=>Hid (LinM wx w1.heap.size (Ln.want0 k s.data.toList a.data.toList)∧Ext w1 wx));(case first=>rcases HK9.out with hk|hk|hk|hk;(·subst hk;obtain⟨F,hcm,hFl⟩:=Ln.ean_full (.inl rfl) HENC.out HML.out;have HW:Hid (Ln.want0 1 s.data.toList a.data.toList=(Ea.outK 1 F,Ea.outT 1 F,a.data.toList)):=B0 (by unfold Ln.want0;rw[G0 (.inl rfl),hcm]);have HCM:=B0 (fun w=>JH 1 s C0 w);rw[hcm]at HCM;obtain⟨X,hX⟩:∃X,X=Ea.bS F:=⟨_,rfl⟩;have hXl:X.data.toList=F:=(by rw[hX];exact Ea.bS_list F);have hXs:1<=X.size:=(by rw[<-Za,hXl];exact hFl);unfold strE at HCM;dsimp only at HCM;rw[<-hX]at HCM;have HXL:=B0 hXl;have hE:=uT hXl hFl;have hP:=pY hXl hFl;clear hX hXl hcm;by_cases h48:F.getD 0 0=48;(·rw[F1 h48]at hP;have HF2:Hid (Ea.outK 1 F=3∧Ea.outT 1 F=F.drop 1):=B0 (by unfold Ea.outK Ea.outT;rw[G0 ⟨rfl,h48⟩,G0 ⟨rfl,h48⟩];exact⟨rfl,rfl⟩);clear h48 hFl;go_wp2_with fail;refine(HCM.out _).mono ?_;rintro e w2 ⟨rfl,hx2⟩;obtain⟨d0,d1,d2,d3,d4,d5,d6,d7⟩:=Zd (Zb HOB.out (((Ext.refl w1).alloc _).trans hx2));obtain⟨e0,e1,e2,e3,e4,e5,e6,e7⟩:=Zd (Zb (E2 w1 (.cells #[.int .i64 1,.string s,.string ⟨#[]⟩] 33)) hx2);have HX2:Hid (Ext w1 w2):=B0 (((Ext.refl w1).alloc _).trans hx2);clear hx2;have hwn:w1.heap.size≠w.heap.size:=C0;go_wp2_with fail;go_region;go_wp2_with fail;go_meet;case rel=>have r1:=Zf (p:=.int .i64 1) (q:=.string X) (r:=.string a) e7;have r2:=Zf (p:=.int .i64 3) (q:=.string (X.extract 1 X.size)) (r:=.string a) (B0 r1);have r3:=Zb r2 ((Ext.refl _).drew);have x3:=(Zu (Zu HX2.out (I0 _) (.int .i64 1) (.string X) (.string a)) (I0 _) (.int .i64 3) (.string (X.extract 1 X.size)) (.string a)).drew;rw[HW.out,HF2.out.1,HF2.out.2];exact B0 ⟨⟨X.extract 1 X.size,a,r3,pZ HXL.out _ rfl,rfl⟩,x3⟩);·rw[D1 h48]at hP;have HF2:Hid (Ea.outK 1 F=1∧Ea.outT 1 F=F):=B0 (by unfold Ea.outK Ea.outT;rw[D0 (fun h=>h48 h.2),D0 (fun h=>h48 h.2)];exact⟨rfl,rfl⟩);clear h48 hFl;go_wp2_with fail;refine(HCM.out _).mono ?_;rintro e w2 ⟨rfl,hx2⟩;obtain⟨d0,d1,d2,d3,d4,d5,d6,d7⟩:=Zd (Zb HOB.out (((Ext.refl w1).alloc _).trans hx2));obtain⟨e0,e1,e2,e3,e4,e5,e6,e7⟩:=Zd (Zb (E2 w1 (.cells #[.int .i64 1,.string s,.string ⟨#[]⟩] 33)) hx2);have HX2:Hid (Ext w1 w2):=B0 (((Ext.refl w1).alloc _).trans hx2);clear hx2;go_wp2_with fail;go_meet;case rel=>rw[HW.out];exact B0 ⟨⟨X,a,by dsimp only;rw[HF2.out.1];exact Zf e7,by dsimp only;rw[HF2.out.2];exact HXL.out,rfl⟩,Zu HX2.out (I0 _) _ _ _⟩);(·obtain⟨F,hcm,hFl⟩:=Ln.ean_full (.inr hk) HENC.out HML.out;have HW:Hid (Ln.want0 k s.data.toList a.data.toList=(k,F,a.data.toList)):=B0 (by unfold Ln.want0 Ea.outK Ea.outT;rw[G0 (.inr hk),D0 C0,D0 C0,hcm]);have HCM:=B0 (fun w=>JH k s C0 w);rw[hcm]at HCM;obtain⟨X,hX⟩:∃X,X=Ea.bS F:=⟨_,rfl⟩;have hXl:X.data.toList=F:=(by rw[hX];exact Ea.bS_list F);unfold strE at HCM;dsimp only at HCM;rw[<-hX]at HCM;have HXL:=B0 hXl;have hE:=uT hXl hFl;have HN0:=B0 (fun(w2:World) (h:Ext (w1.alloc (.cells #[.int .i64 k,.string s,.string ⟨#[]⟩] 33)) w2)=>Zd (Zb (E2 w1 (.cells #[.int .i64 k,.string s,.string ⟨#[]⟩] 33)) h));clear hX hXl hcm hFl;rcases hk with rfl|rfl|rfl;all_goals go_wp2_with fail;refine(HCM.out _).mono ?_;rintro e w2 ⟨rfl,hx2⟩;obtain⟨d0,d1,d2,d3,d4,d5,d6,d7⟩:=Zd (Zb HOB.out (((Ext.refl w1).alloc _).trans hx2));obtain⟨e0,e1,e2,e3,e4,e5,e6,e7⟩:=HN0.out _ hx2;have HX2:Hid (Ext w1 w2):=B0 (((Ext.refl w1).alloc _).trans hx2);clear hx2;go_wp2_with fail;go_meet;case rel=>rw[HW.out];exact B0 ⟨⟨X,a,Zf e7,HXL.out,rfl⟩,Zu HX2.out (I0 _) _ _ _⟩);(·have HW:Hid (Ln.want0 k s.data.toList a.data.toList=(k,s.data.toList,[])):=B0 uV;rcases hk with rfl|rfl|rfl|rfl;all_goals go_wp2_with fail;go_meet;case rel=>rw[HW.out];exact B0 ⟨⟨s,⟨#[]⟩,E2 w1 _,rfl,rfl⟩,(Ext.refl w1).alloc _⟩);·subst hk;obtain⟨g1,g2⟩:=HAB.out.2.2 rfl;have HP:=B0 (fun(w':World) (h:Ext w w')=>kR s G5 w' (Zj HT.out h));obtain⟨xs,hxs⟩:∃xs,xs=(Gs.parse s.data.toList).1:=⟨_,rfl⟩;have hpr:Gs.parse s.data.toList=(xs,0):=(by rw[hxs];exact I6 rfl g1);obtain⟨p1,p2,p3⟩:=jB hpr;rw[<-hxs]at g2;have HFO:=B0 (fun(v:Value) (w':World) (h:Ext w w') hv=>kX v xs w' hv C0 (fun x hx=>by have:=WU (TN p1 x hx);unfold maxLen;omega) (Zj HT.out h));rw[hpr]at HP;obtain⟨t,ht⟩:∃t,t=(Gs.format xs).1:=⟨_,rfl⟩;have hfo:Gs.format xs=(t,0):=(by rw[ht];exact I6 rfl g2);rw[hfo]at HFO;have HW:Hid (Ln.want0 9 s.data.toList a.data.toList=(9,t,[])):=B0 (by unfold Ln.want0;rw[D0 C0,G0 rfl,hpr,hfo]);clear g1 g2 hxs hpr p1 p2 p3 ht hfo;go_wp2_with fail;refine(HP.out _ (HX1.out.alloc _)).mono ?_;rintro e w2 ⟨u,rfl,hu,hx2⟩;dsimp only at hu⊢;go_wp2_with fail;refine(HFO.out _ _ ((HX1.out.alloc _).trans hx2) hu).mono ?_;rintro e w3 ⟨rfl,hx3⟩;obtain⟨e0,e1,e2,e3,e4,e5,e6,e7⟩:=Zd (Zb (Zb (E2 w1 (.cells #[.int .i64 9,.string s,.string ⟨#[]⟩] 33)) hx2) hx3);have HX3:Hid (Ext w1 w3):=B0 ((((Ext.refl w1).alloc _).trans hx2).trans hx3);unfold encS;clear hx2 hx3 hu;go_wp2_with fail;go_meet;case rel=>rw[HW.out];exact B0 ⟨⟨⟨t.toArray⟩,⟨#[]⟩,Zi e7.out,rfl,rfl⟩,HX3.out.setCell (p:=⟨w1.heap.size,1,none⟩) (I0 _) _⟩)
  case rest=>
  have HL:=hcut;clear hcut HK9;by_cases k5:k=5∨k=6∨k=7;(·obtain⟨g1,g2⟩:=HAB.out.2.1 k5;have HW:Hid (Ln.want1 k s.data.toList r ck a.data.toList=(k,(Tw.dec k (Tw.enc k s.data.toList r ck).1 false).1,[])):=B0 (by unfold Ln.want1;rw[G0 k5]);have HW0:Hid (Ln.want0 k s.data.toList a.data.toList=(k,s.data.toList,[])):=B0 uV;have HE:=B0 (fun w=>kE k s r ck a w C0);have heb:=kZ k s.data.toList r ck;obtain⟨ws,hws⟩:∃ws,ws=(Tw.enc k s.data.toList r ck).1:=⟨_,rfl⟩;have hen:Tw.enc k s.data.toList r ck=(ws,0):=(by rw[hws];exact I6 rfl g1);rw[hen]at HE heb HW g2;dsimp only at HW g2 heb;have HD2:=B0 (fun(v:Value) (w:World) hv=>kF k v ws false w hv C0);obtain⟨t,ht⟩:∃t,t=(Tw.dec k ws false).1:=⟨_,rfl⟩;have hdt:Tw.dec k ws false=(t,0):=(by rw[ht];exact I6 rfl g2);rw[hdt]at HD2 HW;dsimp only at HW;have hL:=HL.out;rw[HW0.out]at hL;obtain⟨⟨X0,A0,hblk,hXl,hAl⟩,hxc⟩:=hL;dsimp only at hblk hXl hAl;obtain⟨d0,d1,d2,d3,d4,d5,d6,d7⟩:=Zd (Zb HOB.out hxc);have HBK:=B0 hblk;have HXC:=B0 hxc;have HAL:=B0 hAl;have HBA:=B0 HAB.out.1;have HDK:=B0 (fun(w':World) (h:Ext w1 w')=>NB v1 m w' (HV1.out.ext h) (by have:=HML.out;omega) (Zj HT.out (HX1.out.trans h)));clear g1 g2 hws hen ht hdt hblk hXl hAl hxc heb HAB HL;rcases k5 with rfl|rfl|rfl;all_goals go_wp2_with fail;refine(HE.out _).mono ?_;rintro e w2 ⟨u2,rfl,hu2,hx2⟩;dsimp only at hu2⊢;go_wp2_with fail;refine(HD2.out _ _ hu2).mono ?_;rintro e w3 ⟨rfl,hx3⟩;obtain⟨e0,e1,e2,e3,e4,e5,e6,e7⟩:=Zd (Zb (Zb HBK.out hx2) hx3);have HX3:Hid (Ext w1 w3):=B0 ((HXC.out.trans hx2).trans hx3);unfold strV;clear hx2 hx3 hu2;go_wp2_with fail;have HB9:=B0 (Zi (i:=1) (u:=.string ⟨t.toArray⟩) e7.out);have HX9:Hid (Ext w1 (w3.setCell ⟨w1.heap.size,1,none⟩ (.string ⟨t.toArray⟩))):=B0 (HX3.out.setCell (p:=⟨w1.heap.size,1,none⟩) (I0 _) _);clear e0 e1 e2 e3 e4 e5 e6 e7;generalize w3.setCell ⟨w1.heap.size,1,none⟩ (.string ⟨t.toArray⟩)=wy at*;have HLM:Hid (LinM wy w1.heap.size (Ln.want1 _ s.data.toList r ck a.data.toList)):=B0 (by rw[HW.out];exact⟨⟨t.toArray⟩,A0,HB9.out,rfl,HAL.out⟩);clear HB9;generalize Ln.want1 _ s.data.toList r ck a.data.toList=W at*;obtain⟨XW,AW,hblk,hXl,hAl⟩:=HLM.out;have HBW:=B0 hblk;have HDV:=B0 (HDK.out _ HX9.out);have HSM:=B0 (fun w'=>ED w' W XW AW hXl hAl);clear hblk hXl hAl HLM HDK;rcases HBA.out with hbk|hbk;(·exact QE);·exact QI)
  ·have z5:(k==5)=false:=V0.2 C0
   have z6:(k==6)=false:=V0.2 C0
   have z7:(k==7)=false:=V0.2 C0
   have hW0:Ln.want1 k s.data.toList r ck a.data.toList=Ln.want0 k s.data.toList a.data.toList:=by unfold Ln.want1;rw[D0 k5]
   have hb:=HAB.out.1
   rw[hW0]at hb
   have HBA:=B0 hb
   have HDK:=B0 (fun(w':World) (h:Ext w1 w')=>NB v1 m w' (HV1.out.ext h) (by have:=HML.out;omega) (Zj HT.out (HX1.out.trans h)))
   have HLM:=B0 HL.out.1
   have HX9:=B0 HL.out.2
   generalize Ln.want0 k s.data.toList a.data.toList=W at*
   rename World=>wy
   clear hb hW0 k5 HAB HL
   obtain⟨XW,AW,hblk,hXl,hAl⟩:=HLM.out
   have HBW:=B0 hblk
   have HDV:=B0 (HDK.out _ HX9.out)
   have HSM:=B0 (fun w'=>ED w' W XW AW hXl hAl)
   clear hblk hXl hAl HLM HDK
   rcases HBA.out with hbk|hbk
   ·exact QE
   ·exact QI
 ·have hb:(er !=0)=true:=N2.2 h0;have hm0:m=[]:=(by have:=HBAD.out (by rw[HENV.out];exact h0);rw[HENV.out]at this;exact R2);subst hm0;clear h0 HBAD HOKF HENV;go_enter func6,ntmps6;go_wp2_with fail;refine(HEN.out _ ((Ext.refl w).alloc _)).mono ?_;rintro e w1 ⟨v1,rfl,hv1,hx1⟩;obtain⟨-,a1,c1,rfl,-⟩:=hv1;have HX1:Hid (Ext w w1):=B0 (((Ext.refl w).alloc _).trans hx1);clear hx1;go_wp2_with fail;refine(HAW.out _ (Zj HT.out HX1.out)).mono ?_;rintro e w2 ⟨rfl,hx2⟩;go_wp2;go_ret;exact⟨rfl,HX1.out.trans hx2⟩
end
end Go.Proofs.YtbngggoccndefaaGreatDoor
