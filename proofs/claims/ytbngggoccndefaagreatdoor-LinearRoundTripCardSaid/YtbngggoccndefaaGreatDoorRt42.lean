/-
  Laid.
-/
import Derived.Test.YtbngggoccndefaaGreatDoorRt24
import Derived.Test.YtbngggoccndefaaGreatDoorRt26
import Derived.Test.YtbngggoccndefaaGreatDoorRt41
set_option maxHeartbeats 8000000
set_option maxRecDepth 100000
set_option linter.all false
namespace Go.Proofs.YtbngggoccndefaaGreatDoor
open Go.Proofs.Tryz
section
open Go.RowKit Go.Maps Go
theorem jQ {l:List Int} (h:l.length=6):∃a b c d e f,l=[a,b,c,d,e,f]:=by
 match l,h with
 | [a,b,c,d,e,f],_=>exact⟨a,b,c,d,e,f,rfl⟩
theorem jR {w:World} {b o:Nat} {x0 x1 x2 x3 x4 x5:Int} (h:w.rangeAt b o (([x0,x1,x2,x3,x4,x5]:List Int).map encI)):w.cell? ⟨b,o,none⟩=some (.int .i64 x0)∧w.cell? ⟨b,o+1,none⟩=some (.int .i64 x1)∧w.cell? ⟨b,o+2,none⟩=some (.int .i64 x2)∧w.cell? ⟨b,o+3,none⟩=some (.int .i64 x3)∧w.cell? ⟨b,o+4,none⟩=some (.int .i64 x4)∧w.cell? ⟨b,o+5,none⟩=some (.int .i64 x5):=
 ⟨h 0 _ rfl,h 1 _ rfl,h 2 _ rfl,h 3 _ rfl,h 4 _ rfl,h 5 _ rfl⟩
theorem oH (v:Value) (m:List Bool) (w:World) (hv:SlK w v (m.map encT)) (hm:m.length<=400000):
 Calls prog 79 #[v] w (V4 (Cc.dec m) w):=by
 have HMG:=B0 (PL v m w hv C0)
 have HWD:=B0 (KX v m w hv C0)
 obtain⟨hwin,hwlen⟩:=Rn.widths_in m
 obtain⟨hsl,ca,cc,rfl,-⟩:=hv
 rw[N0]at hsl HMG HWD⊢
 obtain⟨A,hA⟩:∃A,A=Ea.ldg m:=⟨_,rfl⟩
 obtain⟨B,hB⟩:∃B,B=Ea.trl m:=⟨_,rfl⟩
 have hcore:Rn.core m=[]↔A=m.length:=by rcases Rn.row_split m with⟨h1,_,h3,_⟩|⟨q,h1,_,h3⟩;(·rw[hA,h3];exact⟨fun _=>rfl,fun _=>h1⟩);·have h4:=R0 List.length h3;rw[O0,O0,C3,C3,h1,S0]at h4;rw[h1,hA];exact⟨fun h=>by(cases h),fun h=>by omega⟩
 rw[<-hA,<-hB]at HMG
 have HR:=B0 (Cc.dec.eq_1 m)
 rw[<-hA,<-hB]at HR
 obtain⟨ws,hws⟩:∃ws,ws=Rn.widths m:=⟨_,rfl⟩
 rw[<-hws]at HR HWD hwin hwlen
 generalize Cc.dec m=res at*
 obtain⟨M,hM⟩:∃M,M=m.length:=⟨_,rfl⟩
 rw[<-hM]at hsl HMG HWD hm hcore hwin hwlen⊢
 have HSL:=B0 hsl
 clear hA hB hws hM hsl
 by_cases hAM:A=M
 ·have z1:((A:Int)==(M:Int))=true:=C2.2 C0;have HF:Hid (res=([],5)):=B0 (by rw[HR.out,G0 (hcore.2 hAM)]);clear HR hcore hAM;exact Q7
 have z1:((A:Int)==(M:Int))=false:=V0.2 C0
 have HR1:Hid (res=_):=B0 (HR.out.trans (D0 (fun h=>hAM (hcore.1 h))))
 clear HR hcore hAM
 by_cases hq:A<10∨B<10
 ·have HF:Hid (res=([],9)):=B0 (by rw[HR1.out,G0 hq]);clear HR1;by_cases hA10:A<10;(·have hAI:(A:Int)<10:=C0;clear hq;exact Q7);·have hAI:¬(A:Int)<10:=C0;have hBI:(B:Int)<10:=C0;clear hq;exact Q7
 have HR2:Hid (res=_):=B0 (HR1.out.trans (D0 hq))
 have hAI:¬(A:Int)<10:=by omega
 have hBI:¬(B:Int)<10:=by omega
 clear HR1 hq
 obtain⟨n,hn⟩:∃n,n=ws.length:=⟨_,rfl⟩
 rw[<-hn]at HR2 hwlen
 have HNW:=B0 hn
 clear hn
 by_cases hk:n<19∨(n-7)%6≠0
 ·have HF:Hid (res=([],7)):=B0 (by rw[HR2.out,G0 hk]);clear HR2;by_cases hn19:n<19;(·have hnI:(n:Int)-7<12:=C0;clear hk;exact jS);·have hnI:¬(n:Int)-7<12:=C0;obtain⟨k,hkk⟩:∃k,k=n-7:=⟨_,rfl⟩;have hkI:(n:Int)-7=(k:Int):=C0;obtain⟨r,hr⟩:∃r:Int,r=(k:Int)%6:=⟨_,rfl⟩;have hr2:=hr.symm;have hrI:r≠0:=C0;have hrb:(r !=0)=true:=(by simp[hrI]);have hrd:decide (r=0)=false:=D1 hrI;have hnI:¬(k:Int)<12:=C0;clear hk hkk hr;exact jS
 have HR3:Hid (res=_):=B0 (HR2.out.trans (D0 hk))
 obtain⟨k,hkk⟩:∃k,k=n-7:=⟨_,rfl⟩
 obtain⟨K,hK⟩:∃K,K=k/6:=⟨_,rfl⟩
 rw[<-hkk,<-hK]at HR3
 have hkI:(n:Int)-7=(k:Int):=by omega
 have hk12:¬(k:Int)<12:=by omega
 have hp6:(k:Int)%6=0:=by omega
 have hkK:k=6*K:=by omega
 have hk0I:(0:Int)<=(k:Int):=by omega
 have hkn:k<=n:=by omega
 have hknI:(k:Int)<=(n:Int):=by omega
 have hwk:IntKind.i64.wrap (k:Int)=(k:Int):=WX _ C0
 have HKK:=B0 hkK
 clear HR2 hk hkk hK hkK
 go_enter func79,ntmps79
 go_wp2_with fail
 refine HMG.out.mono ?_
 rintro e w1 ⟨rfl,rfl⟩
 go_wp2_with fail
 refine HWD.out.mono ?_
 rintro e w1 ⟨u,rfl,⟨hs,a,c,rfl,hc⟩,hx1⟩
 have hnw:=HNW.out
 rw[N0,<-hnw]at hs hc⊢
 obtain⟨x0,hx0⟩:∃x,ws[0]? =some x:=⟨_,P0 C0⟩
 obtain⟨b,o,ha,hb,-⟩:=hs.int_at (Ext.refl w1) hx0
 subst ha
 have HS:=B0 hs
 have hknc:k<=c:=by omega
 have HSD:Hid (∀w',Ext w1 w'->SlK w' (.slice (some ⟨b,o+k,none⟩) (n-k) (c-k)) ((ws.drop k).map encI)):=B0 (fun w' hx=>by have h1:=HS.out.part k n (c-k) D5 hkn;rw[<-G8,<-S7,P1 C0]at h1;exact⟨Sl.ext h1 hx,_,_,by rw[N0,L2,<-hnw],by rw[N0,L2];omega⟩)
 have HST:=B0 (fun w=>JA 106 w (I0 _))
 clear hnw hx0 hs
 go_wp2_with fail
 obtain⟨db,hdb⟩:∃db,db=decide (ws.drop k=Cc.stopP):=⟨_,rfl⟩
 have HDB:=B0 hdb
 clear hdb
 refine FI 5 1 rfl [41,42,43,44,45] [[],[],[0,1],[],[2,3]] M0 M0 ?_
 apply Z8
 ·intro V w' hx hf;(with_reducible refine Zg ?_);intro A ρ hA hρ hcst hfun;have h6:ρ (.tmp 6)=.slice (some ⟨b,o,none⟩) n c:=(X1 hρ _).trans (M8 hA 6 rfl);exact jP
 apply Z8
 ·intro V w' hx hf;(with_reducible refine Zg ?_);intro A ρ hA hρ hcst hfun;have h7:ρ (.tmp 7)=.int .i64 (k:Int):=(X1 hρ _).trans (M8 hA 7 rfl);exact ZM (hk:=by rw[h7];exact⟨Ext.refl _,rfl⟩)
 refine Zl (fun v w=>SlK w v ((ws.drop k).map encI)) (fun _ _ _ h hx=>h.ext hx) ?_ ?_
 ·intro V w' hx hf;(with_reducible refine Zg ?_);intro A ρ hA hρ hcst hfun;obtain⟨f41,f42,_⟩:=hf;have h41:ρ (.tmp 41)=_:=(X1 hρ _).trans ((Zo hA 41 rfl).trans f41);have h42:ρ (.tmp 42)=_:=(X1 hρ _).trans ((Zo hA 42 rfl).trans f42);have hq:=HSD.out w' hx;simp[Zv,go_sem,hcst,↓IntWalk.iteOmega,Ext.refl,h41,h42,hwk,hk0I,hknI,hkn,hknc];rw[S7]at hq;exact hq
 refine Zl (fun v w=>SlK w v (Cc.stopP.map encI)) (fun _ _ _ h hx=>h.ext hx) ?_ ?_
 ·intro V w' hx hf;(with_reducible refine Zg ?_);intro A ρ hA hρ hcst hfun;simp[Zv,go_sem,hcst,hfun];exact(HST.out w').mono fun e w'' ⟨u,he,hs,hy⟩=>⟨u,he,hy,hs⟩
 refine Zl (eqv (.bool db)) (Zw _) ?_ ?_
 ·intro V w' hx hf;(with_reducible refine Zg ?_);intro A ρ hA hρ hcst hfun;obtain⟨f43,f44,_⟩:=hf;have h43:ρ (.tmp 43)=V 43:=(X1 hρ _).trans (Zo hA 43 rfl);have h44:ρ (.tmp 44)=V 44:=(X1 hρ _).trans (Zo hA 44 rfl);simp[Zv,go_sem,hcst,hfun,h43,h44];exact(dC (V 43) (V 44) (ws.drop k) Cc.stopP w' f43.1 f44.1 (by rw[L2];have:=HNW.out;omega) J0).mono fun e w'' ⟨he,q,hw⟩=>⟨_,he,by rw[hw];exact(Ext.refl _).drewN _,by rw[HDB.out];rfl⟩
 intro V wT hxT hf
 obtain⟨-,-,-,-,g45,-⟩:=hf
 simp only[Zy,I3,YY,Act.put,FM,XA,Y9]
 have q45:V 45=_:=g45
 rw[q45]
 refine FK 5 M0 rfl (fun K5 hK5=> ?_)
 go_simp
 refine hK5 _ _ ?_
 clear hK5 K5
 refine⟨rfl,?_⟩
 have hxw:=hx1.trans hxT
 clear g45 q45
 by_cases hst:ws.drop k≠Cc.stopP
 ·have HF:Hid (res=([],20)):=B0 (HR3.out.trans (G0 hst));obtain rfl:db=false:=(by rw[HDB.out];exact D1 hst);clear HR3 hst;go_wp2;go_ret2;rw[HF.out];exact V4.bad _ _ _ hxw
 have HR4:Hid (res=_):=B0 (HR3.out.trans (D0 hst))
 obtain rfl:db=true:=by rw[HDB.out];exact F1 (V7.1 hst)
 clear HR3 hst HSD HST
 have hmm:= @RS prog
 have hmade:=MapV.made (P:=prog) (k:=172) (key:=Cc.key) wT
 rw[<-Cc.fTo_zero]at hmade
 have HMade:=B0 hmade
 have HBX:=B0 (Ext.refl wT)
 clear hmade
 clear HMG HWD HSL
 have hxw':=B0 hxw
 have HX1:=B0 (hx1)
 clear hxw
 go_wp2_with fail
 have HST:=B0 (fun v w hv=>JA v w hv)
 go_loopw [48] (fun t wr=>∃i:Nat,i<=106∧t=.int .i64 (i:Int)∧Hid (MapV prog 172 Cc.key wr wT.heap.size i (Cc.fTo i))∧Hid (Ext wT wr)) (fun t _=>106-(intOf t).toNat)
 case atStart=>exact⟨0,U0 _,rfl,HMade,B0 ((Ext.refl wT).alloc _)⟩
 case round=>
 clear HMade HBX
 obtain⟨i,hi,rfl,HM,HX⟩:=hrel
 by_cases hlt:i<106
 ·have hiI:(i:Int)<106:=C0;obtain⟨pl,pin⟩:=Cc.pat_in i hlt;have ew:Cc.widOf i=Cc.pats.getD i []:=(by rw[Cc.widOf,D0 C0]);go_wp2_with fail;refine(HST.out i wr C0).mono ?_;rintro e w2 ⟨u,rfl,⟨hu,a2,c2,rfl,-⟩,hx2⟩;rw[ew]at hu;rw[ew,N0,pl];rw[N0,pl]at hu;obtain⟨y0,hy0⟩:∃x,(Cc.pats.getD i [])[0]? =some x:=⟨_,P0 (by rw[pl];decide)⟩;obtain⟨b2,o2,ha,hb2,-⟩:=hu.int_at (Ext.refl w2) hy0;subst ha;have hrg:=hu.range6 (Ext.refl w2) 0;rw[I4,P1 (by rw[pl];exact I0 _),G6]at hrg;obtain⟨y0,y1,y2,y3,y4,y5,hl6⟩:=jQ pl;rw[hl6]at hrg;obtain⟨hc0,hc1,hc2,hc3,hc4,hc5⟩:=jR hrg;have hap:= @jG w2 (some ⟨b2,o2,none⟩) c2;obtain⟨kl,hkl⟩:=Cc.keyOf_six' pl (fun x hx=>by have:=pin x hx;omega);have hM2:=HM.out.kept hx2.asGrown L0;obtain⟨w3,hup,hM3,hg3⟩:=hM2.put (T:=171) Cc.keyed underlying171 hkl (i:Int) G5 Cc.key_inj;rw[<-Cc.fTo_succ i hlt]at hM3;rw[hl6]at hup;have hup:(Instr.mapUpdate 171 (.map (some wT.heap.size)) (.agg #[.int .i64 y0,.int .i64 y1,.int .i64 y2,.int .i64 y3,.int .i64 y4,.int .i64 y5]) (.int .i64 (i:Int))).run prog w2=_:=hup;have HM3:=B0 hM3;have HX3:=B0 ((HX.out.trans hx2).ofGrown hg3 (fun q hq=>by injection hq with hq;omega));clear hM3 hg3 hM2 hkl hrg hu hy0 HM HX pin ew pl hl6;go_wp2_with fail;go_roundw;(case rel=>exact⟨_,_,_,_,_,_,_,_,_,_,_,⟨i+1,by omega,by go_num,HM3,HX3⟩,rfl⟩);case measure=>exact Qr
 obtain rfl:i=106:=by omega
 rw[Cc.fTo_all]at HM
 clear hi hlt HST
 have hmlt:wT.heap.size<wr.heap.size:=HM.out.lt
 obtain⟨mb,hmb⟩:∃mb,mb=wT.heap.size:=⟨_,rfl⟩
 rw[<-hmb]at HM hmlt⊢
 have HMB:=B0 hmb
 have HSZ:Hid (mb+1<=wr.heap.size):=B0 hmlt
 clear hmlt hmb
 go_wp2_with fail
 go_loopw [10,11] (fun u t wq=>∃(j:Nat) (out:List Int),j<=K∧t=.int .i64 ((6*j:Nat):Int)∧out.length<=j∧Hid (Cc.valsGo K ws=(Cc.valsGo (K-j) (ws.drop (6*j))).map (out++·))∧Hid (Own 3 wq (mb+1) u (out.map encI))∧Hid (MapV prog 172 Cc.key wq mb 106 fun w=>(Cc.valOf w).map fun(i:Nat)=>(i:Int))∧Hid (Ext wT wq)∧Hid (mb+1<=wq.heap.size)) (fun _ t _=>k-(intOf t).toNat)
 case atStart=>exact⟨0,[],U0 _,rfl,I0 _,B0 (by rw[RD,I4,YD];cases Cc.valsGo K ws<;>rfl),B0 (Own.nil _ _ _),HM,HX,HSZ⟩
 case round=>
 clear HM HX HSZ
 obtain⟨j,out,hj,rfl,hol,HV,HO,HM,HX,HSZ⟩:=hrel
 obtain⟨p,hp⟩:∃p,p=6*j:=⟨_,rfl⟩
 rw[<-hp]at HV⊢
 have hkK:=HKK.out
 by_cases hlt:j<K
 ·obtain⟨q,hq⟩:∃q,q=p+6:=⟨_,rfl⟩
  have hqI:(p:Int)+6=(q:Int):=by omega
  have hqp:q-p=6:=by omega
  have hpk:(p:Int)<(k:Int):=by omega
  have hpq:p<=q:=by omega
  have hpqI:(p:Int)<=(q:Int):=by omega
  have hqc:q<=c:=by omega
  have hqcI:(q:Int)<=(c:Int):=by omega
  have hqk:q<=k:=by omega
  have h6:((ws.drop p).take 6).length=6:=by rw[L1,L2,<-HNW.out];omega
  obtain⟨y0,y1,y2,y3,y4,y5,hl6⟩:=jQ h6
  have hrg:=HS.out.range6 (hxT.trans HX.out) p
  obtain⟨kl,hkl⟩:=Cc.keyOf_six' h6 (fun x hx=>by have:=hwin x (X7 (L5 hx));omega)
  have hget:=HM.out.get (T:=171) (e:=3) Cc.keyed underlying171 M0 hkl
  have hvs:Cc.valsGo (K-j) (ws.drop p)=match Cc.valOf ((ws.drop p).take 6)with|none=>none|some v=>(Cc.valsGo (K-(j+1)) (ws.drop q)).map fun l=>(v:Int)::l:=by rw[show K-j=(K-(j+1))+1 by omega,Cc.valsGo,Y3,<-hq];rfl
  rw[hvs]at HV
  rw[hl6]at hrg hget
  rw[hl6]at HV
  obtain⟨hc0,hc1,hc2,hc3,hc4,hc5⟩:=jR hrg
  have hap:=fun c'=> @jG wr (some ⟨b,o+p,none⟩) c'
  have hget:(Instr.lookup 171 (.map (some mb)) (.agg #[.int .i64 y0,.int .i64 y1,.int .i64 y2,.int .i64 y3,.int .i64 y4,.int .i64 y5]) true).run prog wr=_:=hget
  clear hkl hrg h6 hl6 hvs
  cases hvo:Cc.valOf [y0,y1,y2,y3,y4,y5]with
  |none=>rw[hvo]at HV hget;have HF:Hid (res=([],18)):=B0 (by rw[HR4.out,HV.out];rfl);have hxw:=hxw'.out.trans HX.out;simp only[Option.map_none,Option.getD_none,Option.isSome_none]at hget;clear HV HR4 hp hq hkK hj hol hlt hqk HO HM HX HSZ;go_wp2_with fail;go_ret2;rw[HF.out];exact V4.bad _ _ _ hxw
  |some v=>rw[hvo]at HV hget;simp only[H7,Option.getD_some,Option.isSome_some]at hget;have HV2:Hid (Cc.valsGo K ws=(Cc.valsGo (K-(j+1)) (ws.drop q)).map ((out++[(v:Int)])++·)):=B0 (by rw[HV.out];dsimp only;rw[Option.map_map];congr 1;funext l;simp);have hown:=HO.out;have hsz:=HSZ.out;have hol2:(out++[(v:Int)]).length<=j+1:=PO;have hol9:out.length<=400000:=C0;have hq6:6*(j+1)=q:=C0;have hmes:k-q<k-p:=C0;clear HV hp hq hkK HO hvo;go_wp2_with (at_builtin;refine Z1 rfl _ _ rfl (mb+1) _ out rfl (hown.alloc _) _ (v:Int) rfl ?c1 ?c2 ?c3 ?_);(case c1=>exact V3);(case c2=>omega);(case c3=>exact W4);intro v' w5 hown5 hg5;have hgm:=HMB.out;have HX5:=B0 ((HX.out.alloc _).ofGrown hg5 (fun r hr=>by have:=hown.low r hr;omega));have HM5:=B0 ((HM.out.kept ((Ext.refl wr).alloc (.cells #[.int .i64 (v:Int)] 3)).asGrown L0).kept hg5 (fun e=>by have:=hown.low _ e;omega));have HSZ5:Hid (mb+1<=w5.heap.size):=B0 (L3 hsz (L3 L0 hg5.size));have HO5:Hid (Own 3 w5 (mb+1) v' ((out++[(v:Int)]).map encI)):=B0 Y6;clear hown hown5 hg5 hsz hgm HM HX HSZ hget;go_wp2_with fail;refine⟨⟨_,_,_,_,_,_,_,_,_,_,_,_,_,_,_,_,_,_,_,_,_,_,_,_,_,_,_,_,_,⟨j+1,_,by omega,by rw[hq6],hol2,by rw[hq6];exact HV2,HO5,HM5,HX5,HSZ5⟩,rfl⟩,?_⟩;(simp[intOf];try omega)
 ·obtain rfl:K=j:=C0;have HF:Hid (res=Cc.chars (out++[106])):=B0 (by rw[HR4.out,HV.out,O3];simp[Cc.valsGo]);have hpk:¬(p:Int)<(k:Int):=C0;have hown:=HO.out;have hsz:=HSZ.out;have hol2:(out++[(106:Int)]).length<=400000:=PO;have hol9:out.length<=400000:=C0;have HXT:=hxw';clear HV HR4 hp hkK HO HM hj hlt;go_wp2_with (at_builtin;refine Z1 rfl _ _ rfl (mb+1) _ out rfl (hown.alloc _) _ 106 rfl ?c1 ?c2 ?c3 ?_);(case c1=>exact V3);(case c2=>omega);(case c3=>exact W4);intro v' w5 hown5 hg5;have hgm:=HMB.out;have HX5:=B0 (HXT.out.trans ((HX.out.alloc _).ofGrown hg5 (fun r hr=>by have:=hown.low r hr;omega)));have hk5:SlK w5 v' ((out++[(106:Int)]).map encI):=(by have h:Own 3 w5 (mb+1) v' ((out++[(106:Int)]).map encI):=Y6;exact h.slk);have HCH:=B0 (oG v' (out++[106]) w5 hk5 hol2);clear hown hown5 hg5 hsz hgm hk5;go_wp2_with fail;refine HCH.out.mono ?_;rintro e w6 ⟨u,rfl,hs6,hx6⟩;have HS6:=B0 hs6;have hx9:=HX5.out.trans hx6;clear hs6;go_wp2;go_ret2;rw[HF.out];exact⟨_,rfl,HS6.out,hx9⟩
end
section
open Go.RowKit
theorem oT {xs:List Gs.El} (h:Gs.verL xs=0):∀x∈xs,x.1.length<=maxLen∧x.2.length<=maxLen:=by intro x hx;have:=WU (TN h x hx);exact F7
theorem oU {xs:List Gs.El} (h:Gs.verL xs=0):xs.length<=(Gs.chG xs).length:=by
 induction xs with
 |nil=>simp
 |cons x xs ih=>obtain⟨h0,h1⟩:=TJ h;obtain⟨r,h2,_⟩:=YS h0;have h3:=(M9 h2).1;have h4:=ih h1;simp only[Gs.chG,O0,ZH,S0];omega
theorem oV {xs:List Gs.El} {c:List Int} (h:Gs.frChars c=(xs,0)):xs.length<=4096∧∀x∈xs,x.1.length<=maxLen∧x.2.length<=maxLen:=by
 have h:=lB h;unfold Gs.chars at h;split at h;·exact TK
 ·split at h;(·simp at h);·rename_i h1 h2;have h3:=OQ (M3 h1);have:=oU h3;rw[S0]at h2;exact⟨by omega,oT h3⟩
theorem oY (v:Value) (m:List Bool) (w:World) (hv:Sl w v (m.map encT)) (hm:m.length<=1000000):
 Calls prog 77 #[v,.bool true] w fun e w'=>(∃k:Int,e=.returned (.int .i64 k)∧decide (0<=k)=Ln.dark m)∧w=w':=by
 obtain⟨a,c,rfl⟩:=hv.form
 rw[N0]at hv⊢
 obtain⟨n,hn⟩:∃n,n=m.length:=⟨_,rfl⟩
 rw[<-hn]at hv hm⊢
 have HN:=B0 hn
 have HV:=B0 hv
 have HD:=B0 (show Ln.dark m=m.any fun b=>b from rfl)
 generalize Ln.dark m=d at*
 clear hv hn
 go_enter func77,ntmps77
 go_wp2_with fail
 go_loop [8] (fun t=>∃j:Nat,j<=n∧t=.int .i64 (j:Int)∧Hid (∀x∈m.take j,x=false)) (fun t=>n-(intOf t).toNat)
 case atStart=>exact LD
 case round=>
 obtain⟨j,hj,rfl,HB⟩:=hrel
 by_cases hlt:j<n
 ·obtain⟨x,hxj⟩:∃x,m[j]? =some x:=⟨_,P0 U3⟩
  obtain⟨b,o,ha,hb,hc⟩:=HV.out.bool_at (Ext.refl w) hxj
  subst ha
  have hjI:(j:Int)<(n:Int):=by omega
  cases x with
  |true=>have HF:Hid (d=true):=B0 (by rw[HD.out,J8];exact⟨true,I1 hxj,rfl⟩);clear hxj;go_wp2;go_ret;exact⟨⟨_,rfl,by rw[HF.out];exact F1 C0⟩,rfl⟩
  |false=>have HB2:Hid (∀y∈m.take (j+1),y=false):=B0 (fun y hy=>by rw[Z2 hxj]at hy;rcases M2.1 hy with h|h;(·exact HB.out y h);·rw[Y2]at h;exact h);clear hxj;exact jM
 ·obtain rfl:n=j:=C0;have HF:Hid (d=false):=B0 (by rw[HD.out,S8];intro x hx;rw[HB.out x FL];simp);clear hlt hj;go_wp2;go_ret;exact⟨⟨_,rfl,by rw[HF.out];rfl⟩,rfl⟩
theorem uB (v:Value) (m:List Bool) (w:World) (hv:Sl w v (m.map encT)) (hm:m.length<=1000000):
 Calls prog 33 #[v,.bool true] w fun e w'=>e=.returned (.bool (Ln.dark m))∧w=w':=by
 have HI:=B0 (oY v m w hv hm)
 generalize Ln.dark m=d at*
 obtain⟨a,c,rfl⟩:=hv.form
 rw[N0]at HI⊢
 generalize m.length=n at*
 go_enter func33,ntmps33
 go_wp2_with fail
 refine HI.out.mono ?_
 rintro e w1 ⟨⟨k,rfl,hk⟩,rfl⟩
 go_wp2
 go_ret
 exact⟨by first|rfl|simp[hk],rfl⟩
theorem uC (w:World) (n:Nat) (B:Nat) (hn:n<=1000000) (hB:B<=w.heap.size):∃w',(Instr.makeSlice 90 (.int .i64 (n:Int)) (.int .i64 (n:Int))).run prog w=.ok (.slice (some ⟨w.heap.size,0,none⟩) n n) w'∧Own 5 w' B (.slice (some ⟨w.heap.size,0,none⟩) n n) ((List.replicate n (0:UInt8)).map encB)∧Ext w w':=by
 obtain⟨i0,hi,hz0,hz1,hz2⟩:=C5 XG;obtain⟨w',h1,h2,h3⟩:=PQ (P:=prog) w B 90 5 i0 (.int .u8 0) 1 underlying90 hi hz0 hz1 .i64 .i64 n UU UV hB;refine⟨w',h1,?_,(Ext.refl w).ofGrown h3 (fun k hk=>by cases hk)⟩;unfold Own;rw[N0,C3];have e:(madeCells (Value.int .u8 0).cells (n*1)).toList=(List.replicate n (0:UInt8)).map encB:=xC
 rw[<-e];exact h2
theorem Own.byteAt {w:World} {B g n c:Nat} {xs:List UInt8} (h:Own 5 w B (.slice (some ⟨g,0,none⟩) n c) (xs.map encB)) {i:Nat} (hi:i<xs.length):∃x,w.cell? ⟨g,i,none⟩=some (encB x)∧w.frozen? ⟨g,i,none⟩=false:=by
 rcases h.2 with⟨h1,_⟩|⟨g',cap,cur,h1,hb,hg,_,_,hcs,ht⟩;·cases h1
 ·injection h1 with h2;injection h2 with h2;injection h2 with h2;subst h2;refine⟨xs[i],?_,by simp[World.frozen?,hg]⟩;have e:cur.toList[i]? =some (encB xs[i]):=xD;simp only[World.cell?,hg];simpa using e
theorem Own.putB {w:World} {B g n c:Nat} {xs:List UInt8} (h:Own 5 w B (.slice (some ⟨g,0,none⟩) n c) (xs.map encB)) (i:Nat) (x:UInt8):Own 5 (w.setCell ⟨g,i,none⟩ (encB x)) B (.slice (some ⟨g,0,none⟩) n c) ((xs.set i x).map encB):=by
 have hn:n=(xs.map encB).length:=xE
 subst hn;obtain⟨h1,h2⟩:=World.ownsRow.stored h i (encB x);unfold Own;rw[List.map_set,O6];exact h1
theorem oZ {l:List Int} {x:Int} {i n:Nat} (f:Int->UInt8) (hn:l.length=n) (h:l[i]? =some x):((l.take i).map f++List.replicate (n-i) (0:UInt8)).set i (f x)=(l.take (i+1)).map f++List.replicate (n-(i+1)) 0:=by
 have hi:=(J1.1 h).1;have e:n-i=(n-(i+1))+1:=by omega
 rw[PR _ _ (by rw[N0,L1];omega),N0,L1,H6 C0,O3,e,D4,Y9,Z2 h,B4,G1];rfl
def chB (c:Int):UInt8:=UInt8.ofNat c.toNat
theorem pA (v:Value) (m:List Bool) (w:World) (hv:SlK w v (m.map encT)) (hm:m.length<=400000) (ht:ZB w):
 Calls prog 35 #[.agg #[v]] w (RdR (Ln.r128 m) w):=by
 have HD:=B0 (fun w' (h:Ext w w')=>oH v m w' (hv.ext h) hm)
 have HCS:=B0 (fun cs h=> @Cc.dec_ge m cs h)
 have hwl:=(Rn.widths_in m).2
 obtain⟨res,hres⟩:∃res,res=Ln.r128 m:=⟨_,rfl⟩
 rw[<-hres]
 unfold Ln.r128 at hres
 obtain⟨⟨cs,er⟩,hd⟩:∃r,r=Cc.dec m:=⟨_,rfl⟩
 rw[<-hd]at HD HCS hres
 unfold Ln.of128 at hres
 dsimp only at hres
 have HR:=B0 hres
 have HT:=B0 ht
 obtain⟨-,a,c,rfl,-⟩:=hv
 rw[N0]at HD⊢
 clear hd hres
 by_cases he:er≠0
 ·have HF:Hid (res=none):=B0 (by rw[HR.out,G0 he]);have z:(er !=0)=true:=(by simp[he]);have zd:decide (er=0)=false:=D1 he;clear HR he HCS;generalize m.length=ml at*;go_enter func35,ntmps35;go_wp2_with fail;refine(HD.out _ Xf).mono ?_;rintro e w1 ⟨u,rfl,hu,hx1⟩;obtain⟨f0,f1,f2,f3,f4,f5,f6,f7⟩:=Zd (Y5 hx1);have hxw:=hx1.before.before;clear hx1 hu;exact uD
 obtain rfl:er=0:=V7.1 he
 have HR1:=B0 (HR.out.trans (D0 he))
 obtain⟨hc0,hcl⟩:=HCS.out cs rfl
 have hcl:cs.length<=400000:=by omega
 generalize m.length=ml at*
 have HC0:=B0 hc0
 clear HR he HCS hc0 hwl
 obtain⟨n,hn⟩:∃n,n=cs.length:=⟨_,rfl⟩
 rw[<-hn]at hcl
 have HN:=B0 hn
 clear hn
 by_cases hf:cs.head? =some 256
 ·rw[G0 hf]at HR1;have hx0:cs[0]? =some 256:=(by rw[<-List.head?_eq_getElem?];exact hf);have hn0:0<n:=(by have:=(J1.1 hx0).1;rw[HN.out];exact R2);have hnI:(0:Int)<(n:Int):=C0;have HX0:=B0 hx0;have HFR:=B0 (fun v w' h h2=>oS v cs w' h R7 h2);obtain⟨⟨els,e2⟩,hfr⟩:∃r,r=Gs.frChars cs:=⟨_,rfl⟩;have HEL:=B0 (fun h=> @oV els cs h);rw[<-hfr]at HFR HR1 HEL;dsimp only at HR1;unfold ElsR at HFR;dsimp only at HFR;clear hf hx0 hfr;by_cases he2:e2≠0;(·rw[G0 he2]at HR1;have z:(e2 !=0)=true:=(by simp[he2]);have zd:decide (e2=0)=false:=D1 he2;clear he2 HEL;go_enter func35,ntmps35;go_wp2_with fail;refine(HD.out _ Xf).mono ?_;rintro e w1 ⟨u,rfl,hu,hx1⟩;have HTX:=B0 (Zj HT.out hx1.before.before);have HFC:=B0 (HFR.out u w1 hu HTX.out);obtain⟨hsl,au,cu,rfl,hcu⟩:=hu;rw[N0,<-HN.out]at hsl HFC hcu⊢;obtain⟨b,o,ha,hb,hc⟩:=hsl.int_at (Ext.refl w1) HX0.out;subst ha;rw[G6]at hc;have HX1:=B0 hx1;clear hx1 hsl;go_wp2_with fail;refine HFC.out.mono ?_;rintro e w2 ⟨u2,rfl,hu2,hx2⟩;obtain⟨f0,f1,f2,f3,f4,f5,f6,f7⟩:=Zd (Y5 (HX1.out.trans hx2));have hxw:=(HX1.out.trans hx2).before.before;clear hx2 hu2 hc;exact uE);obtain rfl:e2=0:=V7.1 he2;rw[D0 he2]at HR1;obtain⟨hel1,hel2⟩:=HEL.out rfl;have HFO:=B0 (fun v w' h h2=>kX v els w' h C0 hel2 h2);obtain⟨⟨s,e3⟩,hfo⟩:∃r,r=Gs.format els:=⟨_,rfl⟩;rw[<-hfo]at HFO HR1;dsimp only at HR1;obtain⟨T,hT⟩:∃T,T=Ea.bS s:=⟨_,rfl⟩;have HTB:=B0 hT;have HFO2:Hid (∀v w',ESl w' v els->ZB w'->Calls prog 19 #[v] w' fun e w''=>e=.returned (.tuple #[.string T,.int .i64 e3])∧Ext w' w''):=B0 (fun v w' h h2=>by rw[hT];exact HFO.out v w' h h2);clear hfo HFO he2 HEL hel2 hT;by_cases he3:e3≠0;(·rw[G0 he3]at HR1;have z:(e3 !=0)=true:=(by simp[he3]);have zd:decide (e3=0)=false:=D1 he3;clear he3;go_enter func35,ntmps35;go_wp2_with fail;refine(HD.out _ Xf).mono ?_;rintro e w1 ⟨u,rfl,hu,hx1⟩;have HTX:=B0 (Zj HT.out hx1.before.before);have HFC:=B0 (HFR.out u w1 hu HTX.out);obtain⟨hsl,au,cu,rfl,hcu⟩:=hu;rw[N0,<-HN.out]at hsl HFC hcu⊢;obtain⟨b,o,ha,hb,hc⟩:=hsl.int_at (Ext.refl w1) HX0.out;subst ha;rw[G6]at hc;have HX1:=B0 hx1;clear hx1 hsl;go_wp2_with fail;refine HFC.out.mono ?_;rintro e w2 ⟨u2,rfl,hu2,hx2⟩;have HU2:=B0 hu2;have HX2:=B0 hx2;clear hu2 hx2 hc;go_wp2_with fail;refine(HFO2.out u2 w2 HU2.out (Zj HTX.out HX2.out)).mono ?_;rintro e w3 ⟨rfl,hx3⟩;obtain⟨f0,f1,f2,f3,f4,f5,f6,f7⟩:=Zd (Y5 ((HX1.out.trans HX2.out).trans hx3));have hxw:=((HX1.out.trans HX2.out).trans hx3).before.before;clear hx3;exact uE);·obtain rfl:e3=0:=V7.1 he3;rw[D0 he3]at HR1;clear he3;go_enter func35,ntmps35;go_wp2_with fail;refine(HD.out _ Xf).mono ?_;rintro e w1 ⟨u,rfl,hu,hx1⟩;have HTX:=B0 (Zj HT.out hx1.before.before);have HFC:=B0 (HFR.out u w1 hu HTX.out);obtain⟨hsl,au,cu,rfl,hcu⟩:=hu;rw[N0,<-HN.out]at hsl HFC hcu⊢;obtain⟨b,o,ha,hb,hc⟩:=hsl.int_at (Ext.refl w1) HX0.out;subst ha;rw[G6]at hc;have HX1:=B0 hx1;clear hx1 hsl;go_wp2_with fail;refine HFC.out.mono ?_;rintro e w2 ⟨u2,rfl,hu2,hx2⟩;have HU2:=B0 hu2;have HX2:=B0 hx2;clear hu2 hx2 hc;go_wp2_with fail;refine(HFO2.out u2 w2 HU2.out (Zj HTX.out HX2.out)).mono ?_;rintro e w3 ⟨rfl,hx3⟩;obtain⟨f0,f1,f2,f3,f4,f5,f6,f7⟩:=Zd (Y5 ((HX1.out.trans HX2.out).trans hx3));have hxw:=((HX1.out.trans HX2.out).trans hx3).before.before;clear hx3;go_wp2_with fail;refine R1 (Ze results35 rfl (Zf f7) rfl) rfl ?_;rw[HR1.out,HTB.out];exact FG
 rw[D0 hf]at HR1
 have HHD:Hid (∀x,cs[0]? =some x->x≠256):=B0 (fun x h e=>hf (by rw[List.head?_eq_getElem?,h,e]))
 clear hf
 by_cases h0:n=0
 ·obtain rfl:cs=[]:=V2 (by rw[<-HN.out];exact h0);subst h0;go_enter func35,ntmps35;go_wp2_with fail;refine(HD.out _ Xf).mono ?_;rintro e w1 ⟨u,rfl,hu,hx1⟩;obtain⟨hsl,au,cu,rfl,hcu⟩:=hu;have HX1:=B0 hx1;obtain⟨wm,hmk,hOm,hXm⟩:=uC w1 0 w1.heap.size C0 (I0 _);have hmk:(Instr.makeSlice 90 (.int .i64 0) (.int .i64 0)).run prog w1=_:=hmk;have hcv:=Zn (l:=[]) hOm.sl;have HF:Hid (res=some (8,[],[])):=B0 (by rw[HR1.out,D0 J0];rfl);obtain⟨f0,f1,f2,f3,f4,f5,f6,f7⟩:=Zd (Y5 (HX1.out.trans hXm));have hxw:=(HX1.out.trans hXm).before.before;clear hx1 hsl hXm hOm HD;go_wp2_with fail;go_loopw [53] (fun t wr=>t=.int .i64 0∧wr=wm) (fun _ _=>0);(case atStart=>exact Q3)
  case round=>
  obtain⟨rfl,rfl⟩:=hrel;exact uF
 ·have hnI:(0:Int)<(n:Int):=C0;obtain⟨x0,hx0⟩:∃x,cs[0]? =some x:=⟨_,P0 R7⟩;have z256:(x0==256)=false:=V0.2 (HHD.out x0 hx0);have HX0:=B0 hx0;clear hx0;go_enter func35,ntmps35;go_wp2_with fail;refine(HD.out _ Xf).mono ?_;rintro e w1 ⟨u,rfl,hu,hx1⟩;obtain⟨hsl,au,cu,rfl,hcu⟩:=hu;rw[N0,<-HN.out]at hsl hcu⊢;obtain⟨b,o,ha,hb,hc⟩:=hsl.int_at (Ext.refl w1) HX0.out;subst ha;rw[G6]at hc;have HX1:=B0 hx1;have HS:=B0 hsl;obtain⟨wm,hmk,hOm,hXm⟩:=uC w1 n w1.heap.size C0 (I0 _);have HOm:=B0 hOm;have HXm:=B0 hXm;clear hx1 hsl hXm hOm HD;go_wp2_with fail;go_loopw [53] (fun t wr=>∃j:Nat,j<=n∧t=.int .i64 (j:Int)∧Hid (∀x∈cs.take j,x<128)∧Hid (Own 5 wr w1.heap.size (.slice (some ⟨w1.heap.size,0,none⟩) n n) (((cs.take j).map chB++List.replicate (n-j) (0:UInt8)).map encB))∧Hid (Ext w1 wr)) (fun t _=>n-(intOf t).toNat);(case atStart=>exact⟨0,U0 _,rfl,B0 (fun x hx=>by simp at hx),by simpa using HOm,HXm⟩)
  case round=>
  clear HOm HXm hmk;obtain⟨j,hj,rfl,HB,HO,HX⟩:=hrel;by_cases hlt:j<n;(·obtain⟨x,hxj⟩:∃x,cs[j]? =some x:=⟨_,P0 U3⟩;obtain⟨b',o',ha,hb',hcj⟩:=HS.out.int_at HX.out hxj;injection ha with ha;injection ha with h1 h2;subst h1 h2;have hjI:(j:Int)<(n:Int):=C0;have hxg:=HC0.out x (I1 hxj);by_cases hx:x<128;(·have hbx:((chB x).toNat:Int)=x:=(by unfold chB;rw[JB];omega);obtain⟨xo,co,fo⟩:=HO.out.byteAt (i:=j) (by rw[O0,N0,L1,C3,<-HN.out];omega);have hO9:=HO.out.putB j (chB x);rw[oZ chB HN.out.symm hxj]at hO9;unfold encB at hO9;rw[hbx]at hO9;have HO9:=B0 hO9;have HB2:Hid (∀y∈cs.take (j+1),y<128):=B0 (fun y hy=>by rw[Z2 hxj]at hy;rcases M2.1 hy with h|h;(·exact HB.out y h);·rw[Y2]at h;subst h;exact hx);have hxI:¬128<=x:=C0;clear hxj hO9 hbx;go_wp2_with fail;go_roundw;(case rel=>exact⟨j+1,by omega,by go_num,HB2,HO9,B0 (HX.out.setCell (p:=⟨w1.heap.size,j,none⟩) (I0 _) _)⟩);case measure=>exact Qr);·have HF:Hid (res=none):=B0 (by rw[HR1.out,G0];rw[J8];exact⟨x,I1 hxj,by simp;omega⟩);have hxI:128<=x:=C0;obtain⟨f0,f1,f2,f3,f4,f5,f6,f7⟩:=Zd (Y5 (HX1.out.trans HX.out));have hxw:=(HX1.out.trans HX.out).before.before;clear hxj hx;exact uD);·obtain rfl:n=j:=C0;have HF:Hid (res=some (8,cs.map chB,[])):=B0 (by rw[HR1.out,D0];(·rfl);·rw[XQ,S8];intro x hx;have:=HB.out x FL;simp;omega);have hO:=HO.out;rw[O3,WI,B3,P1 D8]at hO;have hcv:=Zn hO.sl;obtain⟨f0,f1,f2,f3,f4,f5,f6,f7⟩:=Zd (Y5 (HX1.out.trans HX.out));have hxw:=(HX1.out.trans HX.out).before.before;clear hO hlt hj;exact uF
def rdrs:Array Value:= #[.func (.func 34) #[] #[],.func (.func 35) #[] #[],.func (.func 36) #[] #[],.func (.func 37) #[] #[],.func (.func 38) #[] #[]]
def DecL (w:World) (m:List Bool) (tn ti:Value) (wr:World):Prop:=∃(i n:Nat) (x:Ln.Lin) (t1 t2:TypeId),i<=5∧ti=.int .i64 (i:Int)∧tn=.int .i64 (n:Int)∧n<=i∧Hid (Ln.found m i=(n,x))∧
 Hid (wr.heap[w.heap.size]? =some (.cells #[.int .i64 0,.string ⟨#[]⟩,.string ⟨#[]⟩] 33 (0,0)))∧Hid (wr.heap[w.heap.size+1]? =some (.cells rdrs t1 (0,0)))∧Hid (wr.heap[w.heap.size+2]? =some (.cells #[.int .i64 x.1,.string (Ea.bS x.2.1),.string (Ea.bS x.2.2)] t2 (0,0)))∧Hid (Ext w wr)
theorem pB {w:World} {b:Nat} {t:TypeId} (h:w.heap[b]? =some (.cells rdrs t (0,0))):w.cell? ⟨b,0,none⟩=some (.func (.func 34) #[] #[])∧w.cell? ⟨b,1,none⟩=some (.func (.func 35) #[] #[])∧w.cell? ⟨b,2,none⟩=some (.func (.func 36) #[] #[])∧w.cell? ⟨b,3,none⟩=some (.func (.func 37) #[] #[])∧w.cell? ⟨b,4,none⟩=some (.func (.func 38) #[] #[]):=
 ⟨Zk h rfl,Zk h rfl,Zk h rfl,Zk h rfl,Zk h rfl⟩
theorem WY (m:List Bool) (i:Nat):Ln.found m (i+1)=match Ln.reader i m with|none=>Ln.found m i|some x=>((Ln.found m i).1+1,x):=rfl
theorem NB (v:Value) (m:List Bool) (w:World) (hv:SlK w v (m.map encT)) (hm:m.length<=1000000) (ht:ZB w):
 Calls prog 13 #[v] w fun e w'=>e=.returned (gotV (Ln.decode m))∧Ext w w':=by
 have HT:=B0 ht
 have HCT:=B0 (fun w' (h:Ext w w')=>uB v m w' (hv.ext h).1 hm)
 have HR0:=B0 (fun w' (h:Ext w w')=>nU v m w' (hv.ext h) hm)
 have HR1:=B0 (fun(h2:m.length<=65536) w' (h:Ext w w')=>pA v m w' (hv.ext h) C0 (Zj HT.out h))
 have HR2:=B0 (fun w' (h:Ext w w')=>nR v m w' (hv.ext h) hm)
 have HR3:=B0 (fun w' (h:Ext w w')=>nS v m w' (hv.ext h) hm)
 have HR4:=B0 (fun w' (h:Ext w w')=>nT v m w' (hv.ext h) hm)
 have HD:=B0 (Ln.decode.eq_1 m)
 generalize Ln.decode m=res at*
 obtain⟨-,a,c,rfl,-⟩:=hv
 rw[N0]at HCT HR0 HR1 HR2 HR3 HR4⊢
 generalize m.length=ml at*
 by_cases h4:65536<ml
 ·have h4I:65536<(ml:Int):=C0;rw[G0 h4]at HD;clear h4 HR0 HR1 HR2 HR3 HR4 HCT;go_enter func13,ntmps13;exact uG
 have h4I:¬65536<(ml:Int):=by omega
 rw[D0 h4]at HD
 have HR1:=B0 (HR1.out C0)
 cases hdk:Ln.dark m with
 |false=>rw[hdk]at HCT HD;rw[G0 rfl]at HD;clear h4 HR0 HR1 HR2 HR3 HR4 hdk;go_enter func13,ntmps13;go_wp2_with fail;refine(HCT.out _ Xf).mono ?_;rintro e w1 ⟨rfl,rfl⟩;exact uG
 |true=>
 rw[hdk]at HCT HD
 rw[D0 J0]at HD
 clear h4 hdk
 go_enter func13,ntmps13
 go_wp2_with fail
 refine(HCT.out _ Xf).mono ?_
 rintro e w1 ⟨rfl,rfl⟩
 go_wp2_with fail
 go_loopw [6,22] (fun tn ti wr=>DecL w m tn ti wr) (fun _ t _=>5-(intOf t).toNat)
 case atStart=>have h1:(((w.alloc (.cells #[.int .i64 0,.string ⟨#[]⟩,.string ⟨#[]⟩] 33)).alloc (.cells rdrs 60)).alloc (.cells #[.int .i64 0,.string ⟨#[]⟩,.string ⟨#[]⟩] 33)).heap[w.heap.size+1]? =some (.cells rdrs 60 (0,0)):=Zb (Z9 (w:=w.alloc _) L0 (Ext.refl _)) ((Ext.refl _).alloc _);have h2:(((w.alloc (.cells #[.int .i64 0,.string ⟨#[]⟩,.string ⟨#[]⟩] 33)).alloc (.cells rdrs 60)).alloc (.cells #[.int .i64 0,.string ⟨#[]⟩,.string ⟨#[]⟩] 33)).heap[w.heap.size+2]? =some (.cells #[.int .i64 0,.string ⟨#[]⟩,.string ⟨#[]⟩] 33 (0,0)):=Z9 (w:=(w.alloc _).alloc _) L0 (Ext.refl _);exact⟨0,0,Ln.zero,60,33,U0 _,rfl,rfl,U0 _,B0 rfl,B0 (Zb (E2 w _) (((Ext.refl _).alloc _).alloc _)),B0 h1,B0 h2,B0 ((((Ext.refl _).alloc _).alloc _).alloc _)⟩
 case round=>
 obtain⟨i,n,x,t1,t2,hi,rfl,rfl,hni,HF,HB0,HB1,HB2,HX⟩:=hrel
 obtain⟨k0,s0,a0⟩:=x
 dsimp only at HB2
 by_cases hlt:i<5
 ·have hnc:(n:Int)<=5:=C0;obtain⟨r0,r1,r2,r3,r4⟩:=pB HB1.out;have hfs:w.heap.size+1<wr.heap.size:=(F3.1 HB1.out).1;rcases(by omega:i=0∨i=1∨i=2∨i=3∨i=4)with rfl|rfl|rfl|rfl|rfl
  ·obtain⟨o,ho⟩:∃o,o=Ln.reader 0 m:=⟨_,rfl⟩
   have HO:=B0 ho
   have HRR:Hid (Calls prog 34 #[.agg #[.slice a ml c]] wr (RdR o wr)):=B0 (by rw[ho];exact HR0.out wr HX.out)
   clear ho
   go_wp2_with fail
   refine HRR.out.mono ?_
   rintro e w2 ⟨⟨k,s,ad⟩,rfl,hox,hx2⟩
   have HOX:=B0 hox
   have HX2:=B0 (HX.out.trans hx2)
   have HB02:=B0 (Zb HB0.out hx2)
   have HB12:=B0 (Zb HB1.out hx2)
   obtain⟨f0,f1,f2,f3,f4,f5,f6,f7⟩:=Zd (Zb HB2.out hx2)
   unfold linV
   dsimp only
   clear hox hx2 r0 r1 r2 r3 r4
   obtain⟨bo,hbo⟩:∃bo,bo=o.isSome:=⟨_,rfl⟩
   have HBO:=B0 hbo
   rw[<-hbo]
   clear hbo
   cases bo with
   |true=>have HF2:Hid (Ln.found m (0+1)=(n+1,(k,s,ad))):=B0 TS;go_wp2_with fail;go_roundw;(case rel=>exact⟨0+1,n+1,(k,s,ad),t1,t2,by omega,by go_num,by go_num,by omega,HF2,B0 (Zb (Zx C0 (Zx C0 (Zx C0 HB02.out))) ((Ext.refl _).alloc _)),B0 (Zb (Zx C0 (Zx C0 (Zx C0 HB12.out))) ((Ext.refl _).alloc _)),B0 (Zb (Zf f7) ((Ext.refl _).alloc _)),B0 ((Zu HX2.out C0 _ _ _).alloc _)⟩);case measure=>exact Qr
   |false=>
    have HF2:Hid (Ln.found m (0+1)=(n,(k0,s0,a0))):=B0 (by
     rw[WY,<-HO.out]
     cases o with
     |some y=>have:=HBO.out;cases this
     |none=>exact HF.out)
    go_wp2_with fail;go_roundw;(case rel=>exact⟨0+1,n,(k0,s0,a0),t1,t2,by omega,by go_num,rfl,by omega,HF2,B0 (Zb HB02.out ((Ext.refl _).alloc _)),B0 (Zb HB12.out ((Ext.refl _).alloc _)),B0 (Zb f7.out ((Ext.refl _).alloc _)),B0 (HX2.out.alloc _)⟩);case measure=>exact Qr
  ·obtain⟨o,ho⟩:∃o,o=Ln.reader 1 m:=⟨_,rfl⟩
   have HO:=B0 ho
   have HRR:Hid (Calls prog 35 #[.agg #[.slice a ml c]] wr (RdR o wr)):=B0 (by rw[ho];exact HR1.out wr HX.out)
   clear ho
   go_wp2_with fail
   refine HRR.out.mono ?_
   rintro e w2 ⟨⟨k,s,ad⟩,rfl,hox,hx2⟩
   have HOX:=B0 hox
   have HX2:=B0 (HX.out.trans hx2)
   have HB02:=B0 (Zb HB0.out hx2)
   have HB12:=B0 (Zb HB1.out hx2)
   obtain⟨f0,f1,f2,f3,f4,f5,f6,f7⟩:=Zd (Zb HB2.out hx2)
   unfold linV
   dsimp only
   clear hox hx2 r0 r1 r2 r3 r4
   obtain⟨bo,hbo⟩:∃bo,bo=o.isSome:=⟨_,rfl⟩
   have HBO:=B0 hbo
   rw[<-hbo]
   clear hbo
   cases bo with
   |true=>have HF2:Hid (Ln.found m (1+1)=(n+1,(k,s,ad))):=B0 TS;go_wp2_with fail;go_roundw;(case rel=>exact⟨1+1,n+1,(k,s,ad),t1,t2,by omega,by go_num,by go_num,by omega,HF2,B0 (Zb (Zx C0 (Zx C0 (Zx C0 HB02.out))) ((Ext.refl _).alloc _)),B0 (Zb (Zx C0 (Zx C0 (Zx C0 HB12.out))) ((Ext.refl _).alloc _)),B0 (Zb (Zf f7) ((Ext.refl _).alloc _)),B0 ((Zu HX2.out C0 _ _ _).alloc _)⟩);case measure=>exact Qr
   |false=>
    have HF2:Hid (Ln.found m (1+1)=(n,(k0,s0,a0))):=B0 (by
     rw[WY,<-HO.out]
     cases o with
     |some y=>have:=HBO.out;cases this
     |none=>exact HF.out)
    go_wp2_with fail;go_roundw;(case rel=>exact⟨1+1,n,(k0,s0,a0),t1,t2,by omega,by go_num,rfl,by omega,HF2,B0 (Zb HB02.out ((Ext.refl _).alloc _)),B0 (Zb HB12.out ((Ext.refl _).alloc _)),B0 (Zb f7.out ((Ext.refl _).alloc _)),B0 (HX2.out.alloc _)⟩);case measure=>exact Qr
  ·obtain⟨o,ho⟩:∃o,o=Ln.reader 2 m:=⟨_,rfl⟩
   have HO:=B0 ho
   have HRR:Hid (Calls prog 36 #[.agg #[.slice a ml c]] wr (RdR o wr)):=B0 (by rw[ho];exact HR2.out wr HX.out)
   clear ho
   go_wp2_with fail
   refine HRR.out.mono ?_
   rintro e w2 ⟨⟨k,s,ad⟩,rfl,hox,hx2⟩
   have HOX:=B0 hox
   have HX2:=B0 (HX.out.trans hx2)
   have HB02:=B0 (Zb HB0.out hx2)
   have HB12:=B0 (Zb HB1.out hx2)
   obtain⟨f0,f1,f2,f3,f4,f5,f6,f7⟩:=Zd (Zb HB2.out hx2)
   unfold linV
   dsimp only
   clear hox hx2 r0 r1 r2 r3 r4
   obtain⟨bo,hbo⟩:∃bo,bo=o.isSome:=⟨_,rfl⟩
   have HBO:=B0 hbo
   rw[<-hbo]
   clear hbo
   cases bo with
   |true=>have HF2:Hid (Ln.found m (2+1)=(n+1,(k,s,ad))):=B0 TS;go_wp2_with fail;go_roundw;(case rel=>exact⟨2+1,n+1,(k,s,ad),t1,t2,by omega,by go_num,by go_num,by omega,HF2,B0 (Zb (Zx C0 (Zx C0 (Zx C0 HB02.out))) ((Ext.refl _).alloc _)),B0 (Zb (Zx C0 (Zx C0 (Zx C0 HB12.out))) ((Ext.refl _).alloc _)),B0 (Zb (Zf f7) ((Ext.refl _).alloc _)),B0 ((Zu HX2.out C0 _ _ _).alloc _)⟩);case measure=>exact Qr
   |false=>
    have HF2:Hid (Ln.found m (2+1)=(n,(k0,s0,a0))):=B0 (by
     rw[WY,<-HO.out]
     cases o with
     |some y=>have:=HBO.out;cases this
     |none=>exact HF.out)
    go_wp2_with fail;go_roundw;(case rel=>exact⟨2+1,n,(k0,s0,a0),t1,t2,by omega,by go_num,rfl,by omega,HF2,B0 (Zb HB02.out ((Ext.refl _).alloc _)),B0 (Zb HB12.out ((Ext.refl _).alloc _)),B0 (Zb f7.out ((Ext.refl _).alloc _)),B0 (HX2.out.alloc _)⟩);case measure=>exact Qr
  ·obtain⟨o,ho⟩:∃o,o=Ln.reader 3 m:=⟨_,rfl⟩
   have HO:=B0 ho
   have HRR:Hid (Calls prog 37 #[.agg #[.slice a ml c]] wr (RdR o wr)):=B0 (by rw[ho];exact HR3.out wr HX.out)
   clear ho
   go_wp2_with fail
   refine HRR.out.mono ?_
   rintro e w2 ⟨⟨k,s,ad⟩,rfl,hox,hx2⟩
   have HOX:=B0 hox
   have HX2:=B0 (HX.out.trans hx2)
   have HB02:=B0 (Zb HB0.out hx2)
   have HB12:=B0 (Zb HB1.out hx2)
   obtain⟨f0,f1,f2,f3,f4,f5,f6,f7⟩:=Zd (Zb HB2.out hx2)
   unfold linV
   dsimp only
   clear hox hx2 r0 r1 r2 r3 r4
   obtain⟨bo,hbo⟩:∃bo,bo=o.isSome:=⟨_,rfl⟩
   have HBO:=B0 hbo
   rw[<-hbo]
   clear hbo
   cases bo with
   |true=>have HF2:Hid (Ln.found m (3+1)=(n+1,(k,s,ad))):=B0 TS;go_wp2_with fail;go_roundw;(case rel=>exact⟨3+1,n+1,(k,s,ad),t1,t2,by omega,by go_num,by go_num,by omega,HF2,B0 (Zb (Zx C0 (Zx C0 (Zx C0 HB02.out))) ((Ext.refl _).alloc _)),B0 (Zb (Zx C0 (Zx C0 (Zx C0 HB12.out))) ((Ext.refl _).alloc _)),B0 (Zb (Zf f7) ((Ext.refl _).alloc _)),B0 ((Zu HX2.out C0 _ _ _).alloc _)⟩);case measure=>exact Qr
   |false=>
    have HF2:Hid (Ln.found m (3+1)=(n,(k0,s0,a0))):=B0 (by
     rw[WY,<-HO.out]
     cases o with
     |some y=>have:=HBO.out;cases this
     |none=>exact HF.out)
    go_wp2_with fail;go_roundw;(case rel=>exact⟨3+1,n,(k0,s0,a0),t1,t2,by omega,by go_num,rfl,by omega,HF2,B0 (Zb HB02.out ((Ext.refl _).alloc _)),B0 (Zb HB12.out ((Ext.refl _).alloc _)),B0 (Zb f7.out ((Ext.refl _).alloc _)),B0 (HX2.out.alloc _)⟩);case measure=>exact Qr
  ·obtain⟨o,ho⟩:∃o,o=Ln.reader 4 m:=⟨_,rfl⟩
   have HO:=B0 ho
   have HRR:Hid (Calls prog 38 #[.agg #[.slice a ml c]] wr (RdR o wr)):=B0 (by rw[ho];exact HR4.out wr HX.out)
   clear ho
   go_wp2_with fail
   refine HRR.out.mono ?_
   rintro e w2 ⟨⟨k,s,ad⟩,rfl,hox,hx2⟩
   have HOX:=B0 hox
   have HX2:=B0 (HX.out.trans hx2)
   have HB02:=B0 (Zb HB0.out hx2)
   have HB12:=B0 (Zb HB1.out hx2)
   obtain⟨f0,f1,f2,f3,f4,f5,f6,f7⟩:=Zd (Zb HB2.out hx2)
   unfold linV
   dsimp only
   clear hox hx2 r0 r1 r2 r3 r4
   obtain⟨bo,hbo⟩:∃bo,bo=o.isSome:=⟨_,rfl⟩
   have HBO:=B0 hbo
   rw[<-hbo]
   clear hbo
   cases bo with
   |true=>have HF2:Hid (Ln.found m (4+1)=(n+1,(k,s,ad))):=B0 TS;go_wp2_with fail;go_roundw;(case rel=>exact⟨4+1,n+1,(k,s,ad),t1,t2,by omega,by go_num,by go_num,by omega,HF2,B0 (Zb (Zx C0 (Zx C0 (Zx C0 HB02.out))) ((Ext.refl _).alloc _)),B0 (Zb (Zx C0 (Zx C0 (Zx C0 HB12.out))) ((Ext.refl _).alloc _)),B0 (Zb (Zf f7) ((Ext.refl _).alloc _)),B0 ((Zu HX2.out C0 _ _ _).alloc _)⟩);case measure=>exact Qr
   |false=>
    have HF2:Hid (Ln.found m (4+1)=(n,(k0,s0,a0))):=B0 (by
     rw[WY,<-HO.out]
     cases o with
     |some y=>have:=HBO.out;cases this
     |none=>exact HF.out)
    go_wp2_with fail;go_roundw;(case rel=>exact⟨4+1,n,(k0,s0,a0),t1,t2,by omega,by go_num,rfl,by omega,HF2,B0 (Zb HB02.out ((Ext.refl _).alloc _)),B0 (Zb HB12.out ((Ext.refl _).alloc _)),B0 (Zb f7.out ((Ext.refl _).alloc _)),B0 (HX2.out.alloc _)⟩);case measure=>exact Qr
 ·obtain rfl:i=5:=C0;have HD2:Hid (res=Ln.outcome (n,(k0,s0,a0))):=B0 (by rw[HD.out,HF.out]);obtain⟨f0,f1,f2,f3,f4,f5,f6,f7⟩:=Zd HB0.out;obtain⟨g0,g1,g2,g3,g4,g5,g6,g7⟩:=Zd HB2.out;unfold Ln.outcome at HD2;dsimp only at HD2;by_cases h0:n=0;(·rw[G0 h0]at HD2;subst h0;exact Q8);have z0:((n:Int)==0)=false:=V0.2 C0;rw[D0 h0]at HD2;by_cases h1:1<n;(·have h1I:1<(n:Int):=C0;rw[G0 h1]at HD2;exact Q8);·have h1I:¬1<(n:Int):=C0;rw[D0 h1]at HD2;exact Q8
theorem modules_ok {l:List Int} (h:(Rn.modules l).2=0):1<=(Rn.modules l).1.length∧(Rn.modules l).1.length<=65536∧0<=Rn.sum l∧Rn.sum l<=65536:=by
 unfold Rn.modules at h⊢
 by_cases h0:l.length=0
 ·rw[G0 h0]at h;cases h
 rw[D0 h0]at h⊢
 by_cases h1:l.length%2=0
 ·exact XB
 rw[D0 h1]at h⊢
 cases h2:Tw.inRng l with
 |false=>rw[h2,G0 rfl]at h;cases h
 |true=>
 rw[h2,D0 J0]at h
 by_cases h3:65536<Rn.sum l
 ·exact UR
 rw[D0 J0,D0 h3]
 have hin:=fun x hx=>RH h2 (x:=x) hx
 have h4:=Rn.mods_len l true (fun x hx=>(hin x hx).1)
 have h5:=Rn.sum_pos l (fun x hx=>(hin x hx).1)
 dsimp only
 omega
theorem pC (ws:List Int):∀l∈Ln.cands ws,l.length<=ws.length:=by
 intro l hl;unfold Ln.cands at hl;rcases U1.1 hl with rfl|hl;·rw[N0];exact WP
 rcases M2.1 hl with hl|hl
 ·have:∀ts:List Int,l∈Ln.quants ws ts->l.length<=ws.length:=by
   intro ts
   induction ts with
   |nil=>intro h;cases h
   |cons t ts ih=>intro h;rw[Ln.quants]at h;rcases M2.1 h with h|h;(·split at h;(·rename_i h2;rw[Y2]at h;subst h;exact Nat.le_of_eq (Rn.quant_sum h2).2.1);·cases h);·exact ih h
  exact this _ hl
 ·unfold Ln.wides at hl;split at hl;(·rw[Y2]at hl;subst hl;rw[N0];exact jE ws);·cases hl
theorem pD (ws:List Int):(Ln.cands ws).length<=4:=by
 have h1:∀ts:List Int,(Ln.quants ws ts).length<=ts.length:=by
  intro ts
  induction ts with
  |nil=>exact I0 _
  |cons t ts ih=>rw[Ln.quants,O0,S0];split;(·rw[YP];omega);·rw[U2];omega
 have h2:(Ln.totals ws.length).length<=2:=by unfold Ln.totals;rw[O0];have a1:(if ws.length=59 then [(95:Int)]else if ws.length=43 then [67]else if ws.length=33 then [51]else []).length<=1:=(by split;(·exact WP);·split;(·exact WP);·exact FU);have a2:(if 13<=ws.length∧(ws.length-7)%6=0 then [Ln.total11 ws.length]else []).length<=1:=FU;omega
 have h3:(Ln.wides ws).length<=1:=by unfold Ln.wides;exact FU
 have:=h1 (Ln.totals ws.length);unfold Ln.cands;rw[S0,O0];omega
theorem pE {left right s:Int} {ls:List (List Int)} {j:Nat} {l:List Int} (h:ls[j]? =some l):Ln.tryGo left right s (ls.drop j)=if(Rn.modules l).2=0∧(Ln.decode (Ln.rowOf l left right s)).2=0 then some (Ln.decode (Ln.rowOf l left right s)).1 else Ln.tryGo left right s (ls.drop (j+1)):=by obtain⟨h1,h2⟩:=J1.1 h;rw[G4 h1,h2,Ln.tryGo]
theorem uH (v:Value) (ws:List Int) (left right:Nat) (w:World) (hv:Sl w v (ws.map encI)) (hne:ws≠ []) (hl:ws.length<=65536) (hw:∀x∈ws,1<=x∧x<=65536) (hle:left<=65536) (hri:right<=65536) (ht:ZB w):
 Calls prog 43 #[v,.int .i64 (left:Int),.int .i64 (right:Int)] w (RdR (Ln.try_ ws left right) w):=by
 have HT:=B0 ht
 have HCN:=B0 (fun w' (h:Ext w w')=>nP v ws w' (hv.ext h) hne hl hw)
 have HCL:=B0 (pC ws)
 have hcn:=pD ws
 have hpos:1<=ws.length:=F6.2 hne
 have hsb:=Rn.sum_in hw
 have hsp:=Rn.sum_pos ws (fun x hx=>(hw x hx).1)
 obtain⟨res,hres⟩:∃res,res=Ln.try_ ws left right:=⟨_,rfl⟩
 rw[<-hres]
 unfold Ln.try_ at hres
 obtain⟨ls,hls⟩:∃ls,ls=Ln.cands ws:=⟨_,rfl⟩
 rw[<-hls]at HCN HCL hres hcn
 obtain⟨SM,hSM⟩:∃SM,SM=Rn.sum ws:=⟨_,rfl⟩
 rw[<-hSM]at hres hsb hsp
 have HR0:Hid (res=Ln.tryGo left right SM (ls.drop 0)):=B0 hres
 obtain⟨a,c,rfl⟩:=hv.form
 rw[N0]at hv HCN⊢
 obtain⟨n,hn⟩:∃n,n=ws.length:=⟨_,rfl⟩
 rw[<-hn]at hv hl HCN HCL hpos hsp hsb⊢
 have HN:=B0 hn
 have HV:=B0 hv
 have HS:=B0 hSM
 have HIN:=B0 hw
 have hs0:1<=SM:=by omega
 have hs1:SM<=4294967296:=by have:=hsb.2;omega
 clear hv hw hne hn hSM hsb hsp hres hls
 obtain⟨w0,hw0⟩:∃w0,w0=w.alloc (.cells #[.int .i64 0,.string ⟨#[]⟩,.string ⟨#[]⟩] 33):=⟨_,rfl⟩
 have HX0:Hid (Ext w w0):=B0 (by rw[hw0];exact(Ext.refl w).alloc _)
 have HB0:Hid (w0.heap[w.heap.size]? =some (.cells #[.int .i64 0,.string ⟨#[]⟩,.string ⟨#[]⟩] 33 (0,0))):=B0 (by rw[hw0];exact E2 _ _)
 have HW0:=B0 hw0
 clear hw0
 go_enter func43,ntmps43
 go_wp2_with fail
 rw[<-HW0.out]
 go_loop [8,20] (fun s i=>∃(j:Nat) (t:Int),j<=n∧i=.int .i64 (j:Int)∧s=.int .i64 t∧0<=t∧t<=65536*(j:Int)∧Hid (t=Rn.sum (ws.take j))) (fun _ i=>n-(intOf i).toNat)
 case atStart=>exact UW
 case round=>
 obtain⟨j,t,hj,rfl,rfl,ht0,ht1,HTS⟩:=hrel
 by_cases hlt:j<n
 ·obtain⟨x,hxj⟩:∃x,ws[j]? =some x:=⟨_,P0 U3⟩;obtain⟨b,o,ha,hb,hc⟩:=HV.out.int_at HX0.out hxj;subst ha;have hjI:(j:Int)<(n:Int):=C0;obtain⟨hx1,hx2⟩:=HIN.out x (I1 hxj);have HT2:Hid (t+x=Rn.sum (ws.take (j+1))):=B0 (by rw[Z2 hxj,Rn.sum_snoc,<-HTS.out]);exact uI
 obtain rfl:n=j:=by omega
 obtain rfl:SM=t:=by have h2:=HTS.out;exact jF
 clear hj hlt HTS ht0 ht1
 go_wp2_with fail
 refine(HCN.out w0 HX0.out).mono ?_
 rintro e w1 ⟨u,rfl,hu,hx1⟩
 obtain⟨cb,cc,xs,rfl,hcb,hhs,hcc⟩:=hu
 have HHS:=B0 hhs
 have HCC:=B0 hcc
 have HB1:=B0 (Zb HB0.out hx1)
 have HX1:=B0 (HX0.out.trans hx1)
 clear hhs hcc hx1
 obtain⟨k,hk⟩:∃k,k=ls.length:=⟨_,rfl⟩
 rw[<-hk]
 have HK:=B0 hk
 have hk4:k<=4:=by omega
 clear hk hcn
 go_wp2_with fail
 go_loopw [31] (fun t wr=>∃j:Nat,j<=k∧t=.int .i64 (j:Int)∧Hid (res=Ln.tryGo left right SM (ls.drop j))∧Hid (wr.heap[w.heap.size]? =some (.cells #[.int .i64 0,.string ⟨#[]⟩,.string ⟨#[]⟩] 33 (0,0)))∧Hid (Ext w1 wr)) (fun t _=>k-(intOf t).toNat)
 case atStart=>exact⟨0,U0 _,rfl,by rw[<-HS.out]at*;exact HR0,HB1,B0 (Ext.refl _)⟩
 case round=>
 clear HR0 HB1
 obtain⟨j,hj,rfl,HR,HB,HX⟩:=hrel
 by_cases hlt:j<k
 ·have hjI:(j:Int)<(k:Int):=C0;obtain⟨l,hlj⟩:∃l,ls[j]? =some l:=⟨_,P0 (by rw[<-HK.out];exact hlt)⟩;obtain⟨x,hxj⟩:∃x,xs[j]? =some x:=⟨_,P0 (by rw[HHS.out.1,<-HK.out];exact hlt)⟩;obtain⟨hx2,hxl,hown⟩:=HHS.out.2 j x l hxj hlj;obtain⟨c0,c1⟩:=HCC.out j x hxj;obtain⟨⟨xa,xn,xc⟩,xt⟩:=x;dsimp only at hx2 hxl;subst hx2 hxl;unfold cdV at c0 hown;dsimp only at c0 c1 hown;have hcb2:=hcb;have c0:=(HX.out.cell (p:=⟨cb,j*2,none⟩) hcb2).trans c0;have c1:=(HX.out.cell (p:=⟨cb,j*2+1,none⟩) hcb2).trans c1;have hll:l.length<=1000000:=(by have:=HCL.out l (I1 hlj);omega);have HMO:=B0 (fun w' (h:Ext w1 w')=>KY (.slice xa l.length xc) l w' ((hown.slk.1).ext h) hll);have HTA:=B0 (pE (left:=left) (right:=right) (s:=SM) hlj);have HOK:=B0 (@modules_ok l);have HRO:=B0 (show Ln.rowOf l left right SM=Ln.quiet (Rn.modules l).1 (min 64 ((left:Int)*Rn.sum l/SM)).toNat (min 64 ((right:Int)*Rn.sum l/SM)).toNat from rfl);obtain⟨⟨ms,me⟩,hms⟩:∃r,r=Rn.modules l:=⟨_,rfl⟩;rw[<-hms]at HMO HTA HOK HRO;dsimp only at HTA HOK HRO;clear hown hms hxj;go_wp2_with fail;refine(HMO.out _ (HX.out.alloc _)).mono ?_;rintro e w2 ⟨u,rfl,hu,hx2⟩;dsimp only at hu⊢;have HX2:=B0 ((HX.out.alloc _).trans hx2);have HB2:=B0 (Zb (Zb HB.out ((Ext.refl _).alloc _)) hx2);have HC2:=B0 (Zb (E2 wr _) hx2);obtain⟨hsl,au,cu,rfl,-⟩:=hu;rw[N0]at hsl⊢;have HU:=B0 hsl;clear hsl hx2;by_cases hme:me=0;(·subst hme;obtain⟨hm1,hm2,ht0,ht1⟩:=HOK.out rfl;obtain⟨-,e0,e1,e2,e3⟩:=WV HC2.out;obtain⟨tot,htot⟩:∃tot,tot=Rn.sum l:=⟨_,rfl⟩;rw[<-htot]at ht0 ht1 e1 HRO;have HTOT:=B0 htot.symm;clear htot;obtain⟨A,hA⟩:∃A,A=(min 64 ((left:Int)*tot/SM)).toNat:=⟨_,rfl⟩;obtain⟨B,hB⟩:∃B,B=(min 64 ((right:Int)*tot/SM)).toNat:=⟨_,rfl⟩;rw[<-hA,<-hB]at HRO;obtain⟨pl,hpl⟩:∃p,p=(left:Int)*tot:=⟨_,rfl⟩;have hple:=hpl.symm;have hpl0:0<=pl:=(by rw[hpl];exact O8 C0 ht0);have hpl1:pl<=65536*65536:=(by rw[hpl];exact T9 C0 ht1 ht0 C0);obtain⟨ql,hql⟩:∃q,q=pl/SM:=⟨_,rfl⟩;have hql0:0<=ql:=(by rw[hql];exact OS hpl0 C0);have hql1:ql<=65536*65536:=(by rw[hql];exact OT (OU SM hpl0) hpl1);have hqle:=hql.symm;have hplw:IntKind.i64.wrap pl=pl:=WX _ C0;have hqlw:IntKind.i64.wrap ql=ql:=WX _ C0;have hqlt:pl.tdiv SM=ql:=(by rw[hql,TP hpl0]);have hAI:min ql 64=(A:Int):=(by rw[hA,<-hpl,<-hql];omega);have hAJ:min 64 ql=(A:Int):=(by rw[hA,<-hpl,<-hql];omega);have hA64:A<=64:=C0;obtain⟨pr,hpr⟩:∃p,p=(right:Int)*tot:=⟨_,rfl⟩;have hpre:=hpr.symm;have hpr0:0<=pr:=(by rw[hpr];exact O8 C0 ht0);have hpr1:pr<=65536*65536:=(by rw[hpr];exact T9 C0 ht1 ht0 C0);obtain⟨qr,hqr⟩:∃q,q=pr/SM:=⟨_,rfl⟩;have hqr0:0<=qr:=(by rw[hqr];exact OS hpr0 C0);have hqr1:qr<=65536*65536:=(by rw[hqr];exact OT (OU SM hpr0) hpr1);have hqre:=hqr.symm;have hprw:IntKind.i64.wrap pr=pr:=WX _ C0;have hqrw:IntKind.i64.wrap qr=qr:=WX _ C0;have hqrt:pr.tdiv SM=qr:=(by rw[hqr,TP hpr0]);have hBI:min qr 64=(B:Int):=(by rw[hB,<-hpr,<-hqr];omega);have hBJ:min 64 qr=(B:Int):=(by rw[hB,<-hpr,<-hqr];omega);have hB64:B<=64:=C0;have HSU:=B0 (fun w' (h:Ext w2 w')=>xP (.slice au ms.length cu) ms A B w' (HU.out.ext h) C0 hm1 C0 C0);have HQL:=B0 (JD ms A B);obtain⟨row,hrow⟩:∃row,row=Ln.quiet ms A B:=⟨_,rfl⟩;rw[<-hrow]at HRO HSU HQL;rw[HRO.out]at HTA;have hrl:row.length<=1000000:=(by rw[HQL.out];omega);obtain⟨ml,hml⟩:∃ml,ml=ms.length:=⟨_,rfl⟩;rw[<-hml]at HSU hm1 hm2⊢;have hSM0:SM≠0:=C0;have zSM:(SM==0)=false:=V0.2 hSM0;clear hA hB hrow hml;go_wp2_with fail;refine FI 16 1 rfl [43,44,45,46,47,48,49,50,51,52,53,54,55,56,57,58] [[],[],[],[2],[1,3],[],[4,5],[6],[],[],[9],[8,10],[],[11,12],[13],[0,7,14]] M0 M0 ?_;apply Z8;(·intro V w' hx hf;(with_reducible refine Zg ?_);intro A' ρ hA hρ hcst hfun;have h13:ρ (.tmp 13)=.slice au ml cu:=(X1 hρ _).trans (M8 hA 13 rfl);exact ZM (hk:=by rw[h13];exact⟨Ext.refl _,rfl⟩));apply Z8;(·intro V w' hx hf;(with_reducible refine Zg ?_);intro A' ρ hA hρ hcst hfun;have h1:ρ (.tmp 1)=.int .i64 (left:Int):=(X1 hρ _).trans (M8 hA 1 rfl);exact ZM (hk:=by rw[h1];exact⟨Ext.refl _,rfl⟩));refine Zl (eqv (.pointer (some ⟨wr.heap.size,1,none⟩))) (Zw _) ?_ ?_;(·exact uJ);refine Zl (eqv (.int .i64 tot)) (Zw _) ?_ ?_;(·intro V w' hx hf;(with_reducible refine Zg ?_);intro A' ρ hA hρ hcst hfun;obtain⟨f45,_⟩:=hf;have h45:ρ (.tmp 45)=_:=(X1 hρ _).trans ((Zo hA 45 rfl).trans f45);obtain⟨-,-,g1,-,-⟩:=WV (Zb HC2.out hx);rw[HTOT.out]at g1;simp[Zv,go_sem,Ext.refl,h45,g1];try rfl);refine Zl (eqv (.int .i64 pl)) (Zw _) ?_ ?_;(·intro V w' hx hf;(with_reducible refine Zg ?_);intro A' ρ hA hρ hcst hfun;obtain⟨f44,f46,_⟩:=hf;have h44:ρ (.tmp 44)=_:=(X1 hρ _).trans ((Zo hA 44 rfl).trans f44);have h46:ρ (.tmp 46)=_:=(X1 hρ _).trans ((Zo hA 46 rfl).trans f46);simp[Zv,go_sem,hcst,↓IntWalk.iteOmega,Ext.refl,h44,h46,hple,hplw];try rfl);apply Z8;(·exact uK);refine Zl (eqv (.int .i64 ql)) (Zw _) ?_ ?_;(·intro V w' hx hf;(with_reducible refine Zg ?_);intro A' ρ hA hρ hcst hfun;obtain⟨f47,f48,_⟩:=hf;have h47:ρ (.tmp 47)=_:=(X1 hρ _).trans ((Zo hA 47 rfl).trans f47);have h48:ρ (.tmp 48)=_:=(X1 hρ _).trans ((Zo hA 48 rfl).trans f48);simp[Zv,go_sem,hcst,↓IntWalk.iteOmega,Ext.refl,h47,h48,hqle,hqlt,hqlw,zSM,hSM0];try rfl);refine Zl (eqv (.int .i64 (A:Int))) (Zw _) ?_ ?_;(·intro V w' hx hf;(with_reducible refine Zg ?_);intro A' ρ hA hρ hcst hfun;obtain⟨f49,_⟩:=hf;have h49:ρ (.tmp 49)=_:=(X1 hρ _).trans ((Zo hA 49 rfl).trans f49);simp[Zv,go_sem,hcst,↓IntWalk.iteOmega,Ext.refl,h49,hAI,hAJ];try rfl);apply Z8;(·intro V w' hx hf;(with_reducible refine Zg ?_);intro A' ρ hA hρ hcst hfun;have h2:ρ (.tmp 2)=.int .i64 (right:Int):=(X1 hρ _).trans (M8 hA 2 rfl);exact ZM (hk:=by rw[h2];exact⟨Ext.refl _,rfl⟩));refine Zl (eqv (.pointer (some ⟨wr.heap.size,1,none⟩))) (Zw _) ?_ ?_;(·exact uJ);refine Zl (eqv (.int .i64 tot)) (Zw _) ?_ ?_;(·intro V w' hx hf;(with_reducible refine Zg ?_);intro A' ρ hA hρ hcst hfun;obtain⟨f52,_⟩:=hf;have h52:ρ (.tmp 52)=_:=(X1 hρ _).trans ((Zo hA 52 rfl).trans f52);obtain⟨-,-,g1,-,-⟩:=WV (Zb HC2.out hx);rw[HTOT.out]at g1;simp[Zv,go_sem,Ext.refl,h52,g1];try rfl);refine Zl (eqv (.int .i64 pr)) (Zw _) ?_ ?_;(·intro V w' hx hf;(with_reducible refine Zg ?_);intro A' ρ hA hρ hcst hfun;obtain⟨f51,f53,_⟩:=hf;have h51:ρ (.tmp 51)=_:=(X1 hρ _).trans ((Zo hA 51 rfl).trans f51);have h53:ρ (.tmp 53)=_:=(X1 hρ _).trans ((Zo hA 53 rfl).trans f53);simp[Zv,go_sem,hcst,↓IntWalk.iteOmega,Ext.refl,h51,h53,hpre,hprw];try rfl);apply Z8;(·exact uK);refine Zl (eqv (.int .i64 qr)) (Zw _) ?_ ?_;(·intro V w' hx hf;(with_reducible refine Zg ?_);intro A' ρ hA hρ hcst hfun;obtain⟨f54,f55,_⟩:=hf;have h54:ρ (.tmp 54)=_:=(X1 hρ _).trans ((Zo hA 54 rfl).trans f54);have h55:ρ (.tmp 55)=_:=(X1 hρ _).trans ((Zo hA 55 rfl).trans f55);simp[Zv,go_sem,hcst,↓IntWalk.iteOmega,Ext.refl,h54,h55,hqre,hqrt,hqrw,zSM,hSM0];try rfl);refine Zl (eqv (.int .i64 (B:Int))) (Zw _) ?_ ?_;(·intro V w' hx hf;(with_reducible refine Zg ?_);intro A' ρ hA hρ hcst hfun;obtain⟨f56,_⟩:=hf;have h56:ρ (.tmp 56)=_:=(X1 hρ _).trans ((Zo hA 56 rfl).trans f56);simp[Zv,go_sem,hcst,↓IntWalk.iteOmega,Ext.refl,h56,hBI,hBJ];try rfl);refine Zl (fun v w=>SlK w v (row.map encT)) (fun _ _ _ h hx=>h.ext hx) ?_ ?_;(·intro V w' hx hf;(with_reducible refine Zg ?_);intro A' ρ hA hρ hcst hfun;obtain⟨f43,f50,f57,_⟩:=hf;have h43:ρ (.tmp 43)=_:=(X1 hρ _).trans ((Zo hA 43 rfl).trans f43);have h50:ρ (.tmp 50)=_:=(X1 hρ _).trans ((Zo hA 50 rfl).trans f50);have h57:ρ (.tmp 57)=_:=(X1 hρ _).trans ((Zo hA 57 rfl).trans f57);simp[Zv,go_sem,hcst,hfun,h43,h50,h57];exact(HSU.out w' hx).mono fun e w'' ⟨u,he,hs,hy⟩=>⟨u,he,hy,hs⟩);intro V w3 hx3 hf;obtain⟨-,-,-,-,-,-,-,-,-,-,-,-,-,-,-,g58,-⟩:=hf;simp only[Zy,I3,YY,Act.put,FM,XA,Y9];refine FK 16 M0 rfl (fun K6 hK6=> ?_);go_simp;refine hK6 _ _ ?_;clear hK6 K6;refine⟨rfl,?_⟩;have hk58:SlK w3 (V 58) (row.map encT):=g58;have HB3:=B0 (Zb HB2.out hx3);have HX13:=B0 (HX2.out.trans hx3);have HX3:=B0 (HX1.out.trans HX13.out);clear g58 hx3;go_wp2_with fail;refine(NB (V 58) row w3 hk58 hrl (Zj HT.out HX3.out)).mono ?_;rintro e w4 ⟨rfl,hx4⟩;have HB4:=B0 (Zb HB3.out hx4);have HX4:=B0 (HX3.out.trans hx4);have HX14:=B0 (HX13.out.trans hx4);obtain⟨⟨⟨rk,rt,ra⟩,re⟩,hre⟩:∃r,r=Ln.decode row:=⟨_,rfl⟩;rw[<-hre]at HTA⊢;unfold gotV linV;dsimp only at HTA⊢;obtain⟨f0,f1,f2,f3,f4,f5,f6,f7⟩:=Zd HB4.out;clear hre hx4 hk58;by_cases hre0:re=0;(·subst hre0;have HF:Hid (res=some (rk,rt,ra)):=B0 (by rw[HR.out,HTA.out,G0 L0]);go_wp2_with fail;refine R1 (Ze results43 rfl (Zb (Zf f7) ((Ext.refl _).alloc _)) rfl) rfl ?_;rw[HF.out];exact⟨(rk,rt,ra),rfl,(fun _=>rfl),(Zu HX4.out (I0 _) _ _ _).alloc _⟩);·have zre:(re==0)=false:=V0.2 hre0;have HR9:Hid (res=Ln.tryGo left right SM (ls.drop (j+1))):=B0 (by rw[HR.out,HTA.out,D0 (fun h=>hre0 h.2)]);go_wp2_with fail;go_roundw;(case rel=>exact⟨j+1,by omega,by go_num,HR9,B0 (Zb f7.out ((Ext.refl _).alloc _)),B0 (HX14.out.alloc _)⟩);case measure=>exact Qr);·have zme:(me !=0)=true:=(by simp[hme]);have zmd:decide (me=0)=false:=D1 hme;have HR9:Hid (res=Ln.tryGo left right SM (ls.drop (j+1))):=B0 (by rw[HR.out,HTA.out,D0 (fun h=>hme h.1)]);go_wp2_with fail;go_roundw;(case rel=>exact⟨j+1,by omega,by go_num,HR9,HB2,HX2⟩);case measure=>exact Qr
 ·obtain rfl:k=j:=C0;have HF:Hid (res=none):=B0 (by rw[HR.out,List.drop_eq_nil_of_le (by rw[<-HK.out];exact I0 _)];rfl);obtain⟨f0,f1,f2,f3,f4,f5,f6,f7⟩:=Zd HB.out;go_wp2_with fail;refine R1 (Ze results43 rfl (Zf f7) rfl) rfl ?_;rw[HF.out];exact RdR.none (Zu (HX1.out.trans HX.out) (I0 _) _ _ _)
end
end Go.Proofs.YtbngggoccndefaaGreatDoor
